import Derived.Test.YtnncigmpcdehnaaGreatDoorQb09
import Derived.Test.YtnncigmpcdehnaaGreatDoorQb11
import Derived.Lib.OthersKept
import Derived.Laws.RangeAny
import Derived.Deep.CutRange
namespace Go.Proofs.YtnncigmpcdehnaaGreatDoor
open Go.RowKit Go.Lib Go.Sort
def BT(i:Nat)(c:UInt8):Bool:=(decide (97≤c.toNat)&&decide (c.toNat≤122))||(decide (0 < i)&&(decide (48≤c.toNat)&&decide (c.toNat≤57)||decide (c.toNat=45)||decide (c.toNat=95)))
def aM(l:List UInt8):Bool:=decide (1≤l.length)&&decide (l.length≤16)&&(List.range l.length).all fun i=>BT i (l[i]?.getD 0)
theorem ki{l:List UInt8}{i:Nat}{c:UInt8}(h:l[i]?=some c)(hc:BT i c=false):aM l=false:=by
 have hlt:i < l.length:=(List.getElem?_eq_some_iff.1 h).1
 unfold aM
 rw[Bool.and_eq_false_iff]
 right
 rw[List.all_eq_false]
 exact⟨i,List.mem_range.2 hlt,by rw[h];simpa using hc⟩
theorem Dm{l:List UInt8}(h1:1≤l.length)(h2:l.length≤16)(h:∀i c,l[i]?=some c→BT i c=true):aM l=true:=by
 unfold aM
 rw[decide_eq_true h1,decide_eq_true h2,Bool.true_and,Bool.true_and,List.all_eq_true]
 intro i hi
 have hlt:=List.mem_range.1 hi
 rw[List.getElem?_eq_getElem hlt]
 exact h i _ (List.getElem?_eq_getElem hlt)
theorem Jh{i:Nat}{c:UInt8}{x:Int}(hx:x=(c.toNat:Int))(h1:97≤x)(h2:x≤122):BT i c=true:=by
 unfold BT
 rw[decide_eq_true (show 97≤c.toNat by omega),decide_eq_true (show c.toNat≤122 by omega)]
 rfl
theorem vV{i:Nat}{c:UInt8}{x:Int}(hx:x=(c.toNat:Int))(hi:0 < i)(h:(48≤x∧x≤57)∨x=45∨x=95):BT i c=true:=by
 unfold BT
 rw[decide_eq_true hi]
 rcases h with⟨h1,h2⟩ | h|h
 ·rw[decide_eq_true (show 48≤c.toNat by omega),decide_eq_true (show c.toNat≤57 by omega)];simp
 ·rw[decide_eq_true (show c.toNat=45 by omega)];simp
 ·rw[decide_eq_true (show c.toNat=95 by omega)];simp
theorem uQ{i:Nat}{c:UInt8}{x:Int}(hx:x=(c.toNat:Int))(h1:¬(97≤x∧x≤122))(h2:¬(0 < i∧((48≤x∧x≤57)∨x=45∨x=95))):BT i c=false:=by
 unfold BT
 apply Bool.eq_false_iff.2
 intro h
 simp only[Bool.or_eq_true,Bool.and_eq_true,decide_eq_true_eq]at h
 omega
theorem IP(s:ByteArray)(pos:Nat)(h:pos < s.size):((s[pos]'h).toNat < 128∧Utf8.decode s pos=((s[pos]'h).toNat,1))∨(128≤(s[pos]'h).toNat∧128≤(Utf8.decode s pos).1):=by
 by_cases ha:(s[pos]'h).toNat < 128
 ·exact .inl ⟨ha,decode_ascii s pos h ha⟩
 ·exact .inr ⟨by omega,(decode_high s pos h (by omega)).1⟩
set_option maxRecDepth 100000
open Go.RowKit Go.Lib Go.Sort
def zE(code at_:Int)(w:World)(chain:List PanicEntry)(w':World):Prop:=
 ∃N,chain=[{ v:=.iface 103 (.pointer (some ⟨N,0,none⟩)),recovered:=false }]∧w.heap.size≤N∧aB w' N 105 [.int .i64 code,.int .i64 at_]
set_option maxHeartbeats 4000000 in
theorem oh(lp:Value)(code at_:Int)(w:World):Calls Tryz.prog 94 #[lp,.int .i64 code,.int .i64 at_] w fun e w'=>∃chain,e=.panicked chain∧zE code at_ w chain w'∧aw [] w w':=by
 go_enter Tryz.func94,Tryz.ntmps94
 go_wp2
 refine⟨rfl,_,rfl,⟨w.heap.size,rfl,Nat.le_refl _,?_⟩,(aw.refl [] w).alloc _⟩
 exact aB.new w 105 #[.int .i64 code,.int .i64 at_]
open Go.RowKit Go.Lib Go.Sort
theorem CK(s:ByteArray)(lo hi:Nat)(h:lo≤hi)(h2:hi≤s.size)(W:World):(Instr.sliceAt 9 (.string s) (some (.int .i64 lo)) (some (.int .i64 hi)) none).run Tryz.prog W=.ok (.string (s.extract lo hi)) W:=by
 simp[Instr.sliceAt,run_underlying Tryz.underlying9,Instr.slice,Instr.sliceBounds,Instr.sliceBound,asIntOf,h,h2]
theorem vB(x y:Operand)(a b:List UInt8)(h:a.length+b.length≤9000000000000000000)(W:World):(do eqGuard .add 9 x y (.string ⟨a.toArray⟩) (.string ⟨b.toArray⟩);binOp .add 9 (.string ⟨a.toArray⟩) (.string ⟨b.toArray⟩):Sem Value).run Tryz.prog W=.ok (.string ⟨(a++b).toArray⟩) W:=by
 have e:¬(((⟨a.toArray⟩:ByteArray).size+(⟨b.toArray⟩:ByteArray).size:Nat):Int) > IntKind.i64.max:=by
  have:IntKind.i64.max=9223372036854775807:=by decide
  rw[this]
  simp[ByteArray.size]
  omega
 show(Op.stringOp .add (⟨a.toArray⟩) (⟨b.toArray⟩)).run Tryz.prog W=_
 unfold Op.stringOp
 simp only[if_neg e]
 show Result.ok (Value.string (⟨a.toArray⟩++⟨b.toArray⟩)) W=_
 congr 2
theorem iw{a b:Int}(h:a=b):Value.int .i64 a=.int .i64 b:=by rw[h]
theorem j5{a:Int}(h0 : -9223372036854775808≤a)(h1:a≤9223372036854775807):IntKind.i64.wrap a=a:=IntWalk.i64_in _ ⟨h0,h1⟩
theorem bz{a b:Bool}(h:a=b):Value.bool a=.bool b:=by rw[h]
section
variable{v:Bool}{n:Nat}{w:World}{Kr:Sx.St→Prop}
end
section
variable{n a k:Nat}{w:World}{Kr:Sx.St→Prop}
end
open Go.RowKit Go.Lib Go.Sort
def u8(c:UInt8):Value:=.int .u8 (c.toNat:Int)
theorem gF(s:List UInt8)(i:Nat)(c:UInt8)(h:s[i]?=some c)(W:World):(Instr.index 9 (.string ⟨s.toArray⟩) (.int .i64 (i:Int))).run Tryz.prog W=.ok (u8 c) W:=by
 obtain⟨hlt,hc⟩:=List.getElem?_eq_some_iff.1 h
 rw[run_index_string W 9 ⟨s.toArray⟩ .i64 (i:Int) Tryz.underlying9,dif_pos ⟨by omega,by simpa[ByteArray.size]using hlt⟩]
 subst hc
 simp[u8,ByteArray.getElem_eq_getElem_data]
theorem jI(s:List UInt8):Value.int .i64 (((⟨s.toArray⟩:ByteArray).size:Nat):Int)=.int .i64 (s.length:Int):=iw (by simp[ByteArray.size])
theorem dQ{b:Bool}(h:b=true):Value.bool b=.bool true:=by rw[h]
theorem dY{b:Bool}(h:b=false):Value.bool b=.bool false:=by rw[h]
set_option maxRecDepth 100000
open Go.RowKit Go.Lib Go.Sort
theorem zE.up{code at_:Int}{w W w':World}{chain:List PanicEntry}(h:zE code at_ W chain w')(hs:w.heap.size≤W.heap.size):zE code at_ w chain w':=by
 obtain⟨N,h1,h2,h3⟩:=h
 exact⟨N,h1,Nat.le_trans hs h2,h3⟩
theorem jg{P:Program}{f:FuncId}{args:Array Value}{b:Sx.bw}{W:World}{vs:List Value}{ps:List (Nat×Nat)}(h:Calls P f args W fun e w'=>∃chain,e=.panicked chain∧b.PP chain w'∧aw [] W w'):Calls P f args W (Sx.ui b W vs (.Dg ps)):=
 h.mono fun _ _ ⟨ch,he,hp,hc⟩=>⟨ch,[],he,hp,hc,fun _ hx=>by cases hx⟩
theorem Iu(g:Nat)(ws:Value)(at_ code:Int)(w:World)(hb:aB w g 154 [ws,.int .i64 at_]):Calls Tryz.prog 191 #[.pointer (some ⟨g,0,none⟩),.bool false,.int .i64 code] w (Sx.gv ⟨w,[g],zE code at_ w⟩ fun _ _=>False):=by
 have c14:=fun W (hW:aw [g] w W) (_:aB W g 154 [ws,.int .i64 at_])=>jg (b:=⟨w,[g],zE code at_ w⟩) (vs:=[.pointer (some ⟨g,0,none⟩),.int .i64 code,.int .i64 at_]) (ps:=[(0,0)]) ((oh (.pointer (some ⟨g,0,none⟩)) code at_ W).mono fun _ _ ⟨ch,he,hf,hc⟩=>⟨ch,he,hf.up hW.size,hc⟩)
 have z0:=trivial
 refine Sx.gW (args:=[.ptr 0 0,.val (.bool false),.val (.int .i64 code)]) [(g,154,[ws,.int .i64 at_])] (by simpa using hb) (by simp) (zE code at_ w) [(14,.jt)] [] (by kernel_rfl) Tryz.func191 rfl (Nat.le_of_ble_eq_true rfl) rfl ?_
 exact Eq.mp (by kernel_rfl) (And.intro c14 z0)
theorem Ex(lp:Value)(code:Int)(w:World):Calls Tryz.prog 191 #[lp,.bool true,.int .i64 code] w fun e w'=>e=.returned (.tuple #[])∧aw [] w w':=by
 have z0:Value.tuple #[]=.tuple #[]:=rfl
 refine Sx.dJ (args:=[lp,.bool true,.int .i64 code]) [] [] (by kernel_rfl) Tryz.func191 rfl (Nat.le_of_ble_eq_true rfl) ?_
 exact Eq.mp (by kernel_rfl) z0
def df(A:Option Go.Addr)(n c:Nat)(at_:Nat):List Value:=[.slice A n c,.int .i64 (at_:Int)]
theorem Jj(g:Nat)(A:Option Go.Addr)(n c:Nat)(hn:n≤1000000)(w:World)(hb:aB w g 154 (df A n c n)):Calls Tryz.prog 154 #[.pointer (some ⟨g,0,none⟩)] w (Sx.gv ⟨w,[g],zE 200 ((n:Int)+1) w⟩ fun _ _=>False):=by
 have c12:Value.bool ((n:Int)==(n:Int))=.bool true:=dQ (by simp)
 have c18:Value.int .i64 (IntKind.i64.wrap ((n:Int)+1))=.int .i64 ((n:Int)+1):=iw (j5 (by omega) (by omega))
 have c19:=fun W (hW:aw [g] w W) (_:aB W g 154 (df A n c n))=>jg (b:=⟨w,[g],zE 200 ((n:Int)+1) w⟩) (vs:=[.pointer (some ⟨g,0,none⟩),.int .i64 200,.int .i64 ((n:Int)+1)]) (ps:=[(0,0)]) ((oh (.pointer (some ⟨g,0,none⟩)) 200 ((n:Int)+1) W).mono fun _ _ ⟨ch,he,hf,hc⟩=>⟨ch,he,hf.up hW.size,hc⟩)
 have z0:=trivial
 refine Sx.gW (args:=[.ptr 0 0]) [(g,154,df A n c n)] (by simpa using hb) (by simp) (zE 200 ((n:Int)+1) w) [(12,.is (.bool true)),(18,.is (.int .i64 ((n:Int)+1))),(19,.jt)] [] (by kernel_rfl) Tryz.func154 rfl (Nat.le_of_ble_eq_true rfl) rfl ?_
 exact Eq.mp (by kernel_rfl) (Sx.t2 c12 c18 (And.intro c19 z0))
open Go Go.RowKit Go.Lib Go.Sort
theorem IQ{P:Program}{t:TypeId}{b off:Nat}{d:TypeDesc}{v:Value}(hu:P.underlying t=some d)(hd:d.isRow=false){W:World}(hc:W.cell? ⟨b,off,none⟩=some v) :
  (Instr.loadAt t (.pointer (some ⟨b,off,none⟩))).run P W=.ok v W:=by
 have hagg:(isAgg t).run P W=.ok false W:=by
  unfold isAgg
  rw[Sem.run_bind,run_underlying hu W]
  cases d<;>simp_all
 rw[Sx.oJ]
 simp[loadVar,Sem.run_bind,hagg,load,Sem.run,hc]
set_option maxRecDepth 100000
open Go.RowKit Go.Lib Go.Sort
structure zw(w:World)(S:List Nat)(A:Option Go.Addr)(n:Nat)(ws:List (List UInt8)):Prop where
 len:ws.length=n
 row:0 < n→∃b o,A=some ⟨b,o,none⟩∧b∉S∧b < w.heap.size∧∀(j:Nat) (x:List UInt8),ws[j]?=some x→w.cell? ⟨b,o+j,none⟩=some (.string ⟨x.toArray⟩)
theorem zw.aP{w w':World}{S:List Nat}{A:Option Go.Addr}{n:Nat}{ws:List (List UInt8)}(h:zw w S A n ws)(hc:aw S w w'):zw w' S A n ws:=
 ⟨h.len,fun h0=>by
  obtain⟨b,o,h1,h2,h3,h4⟩:=h.row h0
  exact⟨b,o,h1,h2,Nat.lt_of_lt_of_le h3 hc.size,fun j x hx=>(hc.cell (p:=⟨b,o+j,none⟩) h3 h2).trans (h4 j x hx)⟩⟩
theorem zw.sub{w:World}{S S':List Nat}{A:Option Go.Addr}{n:Nat}{ws:List (List UInt8)}(h:zw w S A n ws)(hs:∀x∈S',x∈S):zw w S' A n ws:=
 ⟨h.len,fun h0=>by
  obtain⟨b,o,h1,h2,h3,h4⟩:=h.row h0
  exact⟨b,o,h1,fun hb=>h2 (hs b hb),h3,h4⟩⟩
theorem zw.cons{w w':World}{S:List Nat}{A:Option Go.Addr}{n x:Nat}{ws:List (List UInt8)}(h:zw w S A n ws)(hc:aw S w w')(hx:w.heap.size≤x):zw w' (x::S) A n ws:=
 ⟨h.len,fun h0=>by
  obtain⟨b,o,h1,h2,h3,h4⟩:=h.row h0
  refine⟨b,o,h1,fun hb=>?_,Nat.lt_of_lt_of_le h3 hc.size,fun j y hy=>(hc.cell (p:=⟨b,o+j,none⟩) h3 h2).trans (h4 j y hy)⟩
  rcases List.mem_cons.1 hb with rfl|hb
  ·omega
  ·exact h2 hb⟩
theorem zw.at{w:World}{S:List Nat}{A:Option Go.Addr}{n c:Nat}{ws:List (List UInt8)}(h:zw w S A n ws){i:Nat}{x:List UInt8}(hx:ws[i]?=some x) :
  ∃p,(∀W,(Instr.indexAt 70 (.slice A n c) (.int .i64 (i:Int))).run Tryz.prog W=.ok p W)∧∀W,aw S w W→(Instr.loadAt 9 p).run Tryz.prog W=.ok (.string ⟨x.toArray⟩) W:=by
 have hi:i < n:=by rw[←h.len];exact(List.getElem?_eq_some_iff.1 hx).1
 obtain⟨b,o,rfl,hb,_,hr⟩:=h.row (by omega)
 refine⟨.pointer (some ⟨b,o+i,none⟩),fun W=>?_,fun W hW=>?_⟩
 ·have hs:(Tryz.prog.info? 9).map (·.size)=some 1:=by kernel_rfl
  cases hq:Tryz.prog.info? 9 with
  |none=>rw[hq]at hs;cases hs
  |some inf=>
   rw[hq]at hs
   have hs:inf.size=1:=by simpa using hs
   simp[Instr.indexAt,run_underlying Tryz.underlying70,asIntOf,hi,sizeOf,typeInfo,hq,hs,Addr.add_lit]
 ·obtain⟨_,_,h1,_,_,h4⟩:=(h.aP hW).row (by omega)
  injection h1 with h1
  injection h1 with h1 h2 h3
  subst h1 h2
  exact IQ Tryz.underlying9 rfl (h4 i x hx)
end Go.Proofs.YtnncigmpcdehnaaGreatDoor
