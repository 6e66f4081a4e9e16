import Derived.Test.YtnncigmpcdehnaaGreatDoorQf13
namespace Go.Proofs.YtnncigmpcdehnaaGreatDoor
open Go.RowKit Go.Lib Go.Sort _root_.Go.Proofs.Tryz
def u8(c:UInt8):Value:=.int .u8 (c.toNat:Int)
theorem gK(s:List UInt8)(i:Nat)(c:UInt8)(h:s[i]?=some c)(W:World):(Instr.index 9 (.string ⟨s.toArray⟩) (.int .i64 (i:Int))).run prog W=.ok (u8 c) W:=by
 obtain⟨hlt,hc⟩:=List.getElem?_eq_some_iff.1 h
 rw[run_index_string W 9 ⟨s.toArray⟩ .i64 (i:Int) underlying9,dif_pos ⟨by omega,by simpa[ByteArray.size]using hlt⟩]
 subst hc
 simp[u8,ByteArray.getElem_eq_getElem_data]
theorem iq(s:List UInt8):Value.int .i64 (((⟨s.toArray⟩:ByteArray).size:Nat):Int)=.int .i64 (s.length:Int):=iw (by simp[ByteArray.size])
theorem j4{b:Bool}(h:b=true):Value.bool b=.bool true:=by rw[h]
theorem ib{b:Bool}(h:b=false):Value.bool b=.bool false:=by rw[h]
set_option maxRecDepth 100000
open Go.RowKit Go.Lib Go.Sort _root_.Go.Proofs.Tryz
set_option maxRecDepth 100000
theorem Cm.up{code at_:Int}{w W w':World}{chain:List PanicEntry}(h:Cm code at_ W chain w')(hs:w.heap.size≤W.heap.size):Cm code at_ w chain w':=by
 obtain⟨N,h1,h2,h3⟩:=h
 exact⟨N,h1,Nat.le_trans hs h2,h3⟩
theorem jN{P:Program}{f:FuncId}{args:Array Value}{b:Sx.aU}{W:World}{vs:List Value}{ps:List (Nat×Nat)}(h:Calls P f args W fun e w'=>∃chain,e=.panicked chain∧b.PP chain w'∧ai [] W w'):Calls P f args W (Sx.mG b W vs (.Ex ps)):=
 h.mono fun _ _ ⟨ch,he,hp,hc⟩=>⟨ch,[],he,hp,hc,fun _ hx=>by cases hx⟩
theorem LS(g:Nat)(ws:Value)(at_ code:Int)(w:World)(hb:au w g 154 [ws,.int .i64 at_]):Calls prog 191 #[.pointer (some ⟨g,0,none⟩),.bool false,.int .i64 code] w (Sx.ew ⟨w,[g],Cm code at_ w⟩ fun _ _=>False):=by
 have c14:=fun W (hW:ai [g] w W) (_:au W g 154 [ws,.int .i64 at_])=>jN (b:=⟨w,[g],Cm code at_ w⟩) (vs:=[.pointer (some ⟨g,0,none⟩),.int .i64 code,.int .i64 at_]) (ps:=[(0,0)]) ((pw (.pointer (some ⟨g,0,none⟩)) code at_ W).mono fun _ _ ⟨ch,he,hf,hc⟩=>⟨ch,he,hf.up hW.size,hc⟩)
 have z0:=trivial
 refine Sx.dx (args:=[.ptr 0 0,.val (.bool false),.val (.int .i64 code)]) [(g,154,[ws,.int .i64 at_])] (by simpa using hb) (by simp) (Cm code at_ w) [(14,.oP)] [] (by kernel_rfl) func191 rfl (cn rfl) rfl ?_
 exact Eq.mp (by kernel_rfl) (And.intro c14 z0)
theorem Hz(lp:Value)(code:Int)(w:World):Calls prog 191 #[lp,.bool true,.int .i64 code] w (Rn w (.tuple #[])):=by
 have z0:Value.tuple #[]=.tuple #[]:=rfl
 refine Sx.aF (args:=[lp,.bool true,.int .i64 code]) [] [] (by kernel_rfl) func191 rfl (cn rfl) ?_
 exact Eq.mp (by kernel_rfl) z0
def dJ(A:Option Go.Addr)(n c:Nat)(at_:Nat):List Value:=[.slice A n c,.int .i64 (at_:Int)]
theorem Nl(g:Nat)(A:Option Go.Addr)(n c:Nat)(hn:n≤1000000)(w:World)(hb:au w g 154 (dJ A n c n)):Calls prog 154 #[.pointer (some ⟨g,0,none⟩)] w (Sx.ew ⟨w,[g],Cm 200 ((n:Int)+1) w⟩ fun _ _=>False):=by
 have c12:Value.bool ((n:Int)==(n:Int))=.bool true:=j4 (by simp)
 have c18:Value.int .i64 (IntKind.i64.wrap ((n:Int)+1))=.int .i64 ((n:Int)+1):=iw (sV (by omega) (by omega))
 have c19:=fun W (hW:ai [g] w W) (_:au W g 154 (dJ A n c n))=>jN (b:=⟨w,[g],Cm 200 ((n:Int)+1) w⟩) (vs:=[.pointer (some ⟨g,0,none⟩),.int .i64 200,.int .i64 ((n:Int)+1)]) (ps:=[(0,0)]) ((pw (.pointer (some ⟨g,0,none⟩)) 200 ((n:Int)+1) W).mono fun _ _ ⟨ch,he,hf,hc⟩=>⟨ch,he,hf.up hW.size,hc⟩)
 have z0:=trivial
 refine Sx.dx (args:=[.ptr 0 0]) [(g,154,dJ A n c n)] (by simpa using hb) (by simp) (Cm 200 ((n:Int)+1) w) [(12,.is (.bool true)),(18,.is (.int .i64 ((n:Int)+1))),(19,.oP)] [] (by kernel_rfl) func154 rfl (cn rfl) rfl ?_
 exact Eq.mp (by kernel_rfl) (Sx.t2 c12 c18 (And.intro c19 z0))
open Go Go.RowKit Go.Lib Go.Sort
theorem sY{P:Program}{t:TypeId}{b off:Nat}{d:TypeDesc}{v:Value}(hu:P.underlying t=some d)(hd:d.isRow=false){W:World}(hc:W.cell? ⟨b,off,none⟩=some v) :
  (Instr.loadAt t (.pointer (some ⟨b,off,none⟩))).run P W=.ok v W:=by
 have hagg:(isAgg t).run P W=.ok false W:=by
  unfold isAgg
  rw[Sem.run_bind,run_underlying hu W]
  cases d<;>simp_all
 rw[Sx.pW]
 simp[loadVar,Sem.run_bind,hagg,load,Sem.run,hc]
theorem FQ{P:Program}{s:TypeId}{fields:Array Field}{f:Nat}{fd:Field}{k b off:Nat}(hu:P.underlying s=some (.struct fields))(hf:fields[f]?=some fd)(hk:(P.info? fd.type).map (·.size)=some (k+1))(W:World) :
  (Instr.fieldAt s (.pointer (some ⟨b,off,none⟩)) f).run P W=.ok (.pointer (some ⟨b,off+fd.offset,none⟩)) W:=by
 cases hq:P.info? fd.type with
 |none=>rw[hq]at hk;cases hk
 |some inf=>
  rw[hq]at hk
  have hk:inf.size=k+1:=by simpa using hk
  simp[Instr.fieldAt,run_underlying hu,hf,Instr.sureAddr,fieldPlace,sizeOf,typeInfo,hq,hk,Addr.add_lit]
set_option maxRecDepth 100000
open Go.RowKit Go.Lib Go.Sort _root_.Go.Proofs.Tryz
structure Cd(w:World)(S:List Nat)(A:Option Go.Addr)(n:Nat)(ws:List (List UInt8)):Prop where
 len:ws.length=n
 row:0 < n→∃b o,A=some ⟨b,o,none⟩∧b∉S∧b < w.heap.size∧∀(j:Nat) (x:List UInt8),ws[j]?=some x→w.cell? ⟨b,o+j,none⟩=some (.string ⟨x.toArray⟩)
theorem Cd.aG{w w':World}{S:List Nat}{A:Option Go.Addr}{n:Nat}{ws:List (List UInt8)}(h:Cd w S A n ws)(hc:ai S w w'):Cd w' S A n ws:=
 ⟨h.len,fun h0=>by
  obtain⟨b,o,h1,h2,h3,h4⟩:=h.row h0
  exact⟨b,o,h1,h2,Nat.lt_of_lt_of_le h3 hc.size,fun j x hx=>(hc.cell (p:=⟨b,o+j,none⟩) h3 h2).trans (h4 j x hx)⟩⟩
theorem Cd.sub{w:World}{S S':List Nat}{A:Option Go.Addr}{n:Nat}{ws:List (List UInt8)}(h:Cd w S A n ws)(hs:∀x∈S',x∈S):Cd w S' A n ws:=
 ⟨h.len,fun h0=>by
  obtain⟨b,o,h1,h2,h3,h4⟩:=h.row h0
  exact⟨b,o,h1,fun hb=>h2 (hs b hb),h3,h4⟩⟩
theorem Cd.cons{w w':World}{S:List Nat}{A:Option Go.Addr}{n x:Nat}{ws:List (List UInt8)}(h:Cd w S A n ws)(hc:ai S w w')(hx:w.heap.size≤x):Cd w' (x::S) A n ws:=
 ⟨h.len,fun h0=>by
  obtain⟨b,o,h1,h2,h3,h4⟩:=h.row h0
  refine⟨b,o,h1,fun hb=>?_,Nat.lt_of_lt_of_le h3 hc.size,fun j y hy=>(hc.cell (p:=⟨b,o+j,none⟩) h3 h2).trans (h4 j y hy)⟩
  rcases List.mem_cons.1 hb with rfl|hb
  ·omega
  ·exact h2 hb⟩
theorem Cd.at{w:World}{S:List Nat}{A:Option Go.Addr}{n c:Nat}{ws:List (List UInt8)}(h:Cd w S A n ws){i:Nat}{x:List UInt8}(hx:ws[i]?=some x) :
  ∃p,(∀W,(Instr.indexAt 70 (.slice A n c) (.int .i64 (i:Int))).run prog W=.ok p W)∧∀W,ai S w W→(Instr.loadAt 9 p).run prog W=.ok (.string ⟨x.toArray⟩) W:=by
 have hi:i < n:=by rw[←h.len];exact(List.getElem?_eq_some_iff.1 hx).1
 obtain⟨b,o,rfl,hb,_,hr⟩:=h.row (by omega)
 refine⟨.pointer (some ⟨b,o+i,none⟩),fun W=>?_,fun W hW=>?_⟩
 ·have hs:(prog.info? 9).map (·.size)=some 1:=by kernel_rfl
  cases hq:prog.info? 9 with
  |none=>rw[hq]at hs;cases hs
  |some inf=>
   rw[hq]at hs
   have hs:inf.size=1:=by simpa using hs
   simp[Instr.indexAt,run_underlying underlying70,asIntOf,hi,sizeOf,typeInfo,hq,hs,Addr.add_lit]
 ·obtain⟨_,_,h1,_,_,h4⟩:=(h.aG hW).row (by omega)
  injection h1 with h1
  injection h1 with h1 h2 h3
  subst h1 h2
  exact sY underlying9 rfl (h4 i x hx)
set_option maxRecDepth 100000
open Go.RowKit Go.Lib Go.Sort _root_.Go.Proofs.Tryz
def SD(g:Nat)(v:Value)(cs:List Value)(r:Sx.j6)(gl:List (Nat×TypeId×List Value)):Prop:=r=.val v∧gl=[(g,154,cs)]
theorem Jp(g:Nat)(A:Option Go.Addr)(n c i:Nat)(ws:List (List UInt8))(x:List UInt8)(hn:n≤1000000)(w:World)(hb:au w g 154 (dJ A n c i))(hw:Cd w [g] A n ws)(hx:ws[i]?=some x)(PP:List PanicEntry→World→Prop):Calls prog 154 #[.pointer (some ⟨g,0,none⟩)] w (Sx.ew ⟨w,[g],PP⟩ (SD g (.string ⟨x.toArray⟩) (dJ A n c (i+1)))):=by
 have hi:i < n:=by rw[←hw.len];exact(List.getElem?_eq_some_iff.1 hx).1
 obtain⟨p,hp1,hp2⟩:=hw.at (c:=c) hx
 have c12:Value.bool ((i:Int)==(n:Int))=.bool false:=ib (by rw[beq_eq_false_iff_ne];omega)
 have c24:=my (i:=i) (by omega)
 have c35:Value.int .i64 (IntKind.i64.wrap (((i+1:Nat):Int) - 1))=.int .i64 (i:Int):=iw (by rw[sV (by omega) (by omega)]; omega)
 have c36:=fun W (_:ai [g] w W)=>hp1 W
 have c37:=hp2
 have h0:Sx.j6.val (Value.string ⟨x.toArray⟩)=.val (.string ⟨x.toArray⟩):=rfl
 have z1:[(g,154,dJ A n c (i+1))]=[(g,154,dJ A n c (i+1))]:=rfl
 refine Sx.dx (args:=[.ptr 0 0]) [(g,154,dJ A n c i)] (by simpa using hb) (by simp) PP [(12,.is (.bool false)),(24,.is (.int .i64 ((i+1:Nat):Int))),(35,.is (.int .i64 (i:Int))),(36,.any p),(37,.any (.string ⟨x.toArray⟩))] [] (by kernel_rfl) func154 rfl (cn rfl) rfl ?_
 exact Eq.mp (by kernel_rfl) (Sx.t4 c12 c24 c35 c36 (Sx.t2 c37 h0 z1))
open Go.RowKit Go.Lib Go.Sort _root_.Go.Proofs.Tryz
theorem Ss(x y:Operand)(v v':Bool)(n m:Nat)(k j:Int)(hn:n < 2^128)(hm:m < 2^128)(hk : -9223372036854775808≤k∧k≤9223372036854775807)(hj : -9223372036854775808≤j∧j≤9223372036854775807)(W:World):(do eqGuard .neq 29 x y (.agg (dm v n k).toArray) (.agg (dm v' m j).toArray); binOp .neq 29 (.agg (dm v n k).toArray) (.agg (dm v' m j).toArray):Sem Value).run prog W=.ok (.bool (!decide (v=v'∧n=m∧k=j))) W:=by
 have h:=Tq v v' n m k j hn hm hk hj W
 rw[Sem.run_bind,NL,Result.andThen_ok]
 show(do pure (.bool (!(←Op.equal 29 (.agg (dm v n k).toArray) (.agg (dm v' m j).toArray)))):Sem Value).run prog W=_
 rw[Sem.run_bind,show(Op.equal 29 (.agg (dm v n k).toArray) (.agg (dm v' m j).toArray)).run prog W=_ from h]
 rfl
theorem QE(x y:Operand)(s t:ByteArray)(W:World):(do eqGuard .neq 9 x y (.string s) (.string t);binOp .neq 9 (.string s) (.string t):Sem Value).run prog W=.ok (.bool (!(s.toList==t.toList))) W:=rfl
theorem RU{P:Program}{s:Sem Value}{W:World}{a b:Bool}(h:s.run P W=.ok (.bool a) W)(e:a=b):s.run P W=.ok (.bool b) W:=by rw[←e];exact h
theorem uc{s:List UInt8}{v:Bool}{n:Nat}{k:Int}(h:Cl s v n k)(hs:s.length≤100000000)(w:World)(HL:eb w):Calls prog 16 #[.string ⟨s.toArray⟩] w (Rn w (.tuple #[.agg (dm v n k).toArray,.int .i64 0])):=by
 refine(IT s hs w HL).mono ?_
 rintro e w' ⟨v',n',k',er,rfl,hC,hh⟩
 rcases hh with⟨rfl,_,hu⟩ | ⟨_,_,_,_,hu⟩
 ·obtain⟨rfl,rfl,rfl⟩:=hu _ _ _ h
  exact⟨rfl,hC⟩
 ·exact absurd h (hu _ _ _)
theorem MD{s:List UInt8}(h:∀v n k,¬Cl s v n k)(hs:s.length≤100000000)(w:World)(HL:eb w):Calls prog 16 #[.string ⟨s.toArray⟩] w (Rn w (.tuple #[.agg (dm false 0 0).toArray,.int .i64 151])):=by
 refine(IT s hs w HL).mono ?_
 rintro e w' ⟨v',n',k',er,rfl,hC,hh⟩
 rcases hh with⟨rfl,hp,_⟩ | ⟨rfl,rfl,rfl,rfl,_⟩
 ·exact absurd hp (h _ _ _)
 ·exact⟨rfl,hC⟩
theorem FI{v:Bool}{n:Nat}{k:Int}(h1:k≤wid v):(kX v n k).length≤100000000:=by
 have h2:=fA v
 have h3:=qY v n
 have h4:=fO (u:=k.toNat) (by omega)
 unfold kX
 simp only[List.length_append,List.length_cons]
 omega
set_option maxRecDepth 100000
open Go.RowKit Go.Lib Go.Sort _root_.Go.Proofs.Tryz
set_option maxRecDepth 100000
theorem lQ(x y:Operand)(s t:List UInt8)(W:World):(do eqGuard .neq 9 x y (.string ⟨s.toArray⟩) (.string ⟨t.toArray⟩);binOp .neq 9 (.string ⟨s.toArray⟩) (.string ⟨t.toArray⟩):Sem Value).run prog W=.ok (.bool (decide (s≠t))) W:=by
 refine RU (QE x y _ _ W) ?_
 have e:∀l:List UInt8,(⟨l.toArray⟩:ByteArray).toList=l:=fun l=>by simp
 rw[e,e]
 by_cases h:s=t<;>simp[h]
theorem Ig(g:Nat)(A:Option Go.Addr)(n c:Nat)(s:List UInt8)(w:World)(hb:au w g 154 (dJ A n c n))(PP:List PanicEntry→World→Prop):Calls prog 152 #[.pointer (some ⟨g,0,none⟩),.string ⟨s.toArray⟩] w (Sx.ew ⟨w,[g],PP⟩ (SD g (.bool false) (dJ A n c n))):=by
 have c14:Value.bool ((n:Int)==(n:Int))=.bool true:=j4 (by simp)
 have h0:Sx.j6.val (Value.bool false)=.val (.bool false):=rfl
 have z1:[(g,154,dJ A n c n)]=[(g,154,dJ A n c n)]:=rfl
 refine Sx.dx (args:=[.ptr 0 0,.val (.string ⟨s.toArray⟩)]) [(g,154,dJ A n c n)] (by simpa using hb) (by simp) PP [(14,.is (.bool true))] [] (by kernel_rfl) func152 rfl (cn rfl) rfl ?_
 exact Eq.mp (by kernel_rfl) (Sx.t2 c14 h0 z1)
theorem Md(g:Nat)(A:Option Go.Addr)(n c i:Nat)(ws:List (List UInt8))(x s:List UInt8)(hn:n≤1000000)(w:World)(hb:au w g 154 (dJ A n c i))(hw:Cd w [g] A n ws)(hx:ws[i]?=some x)(hs:x≠s)(PP:List PanicEntry→World→Prop):Calls prog 152 #[.pointer (some ⟨g,0,none⟩),.string ⟨s.toArray⟩] w (Sx.ew ⟨w,[g],PP⟩ (SD g (.bool false) (dJ A n c (i)))):=by
 have hi:i < n:=by rw[←hw.len];exact(List.getElem?_eq_some_iff.1 hx).1
 obtain⟨p,hp1,hp2⟩:=hw.at (c:=c) hx
 have c14:Value.bool ((i:Int)==(n:Int))=.bool false:=ib (by rw[beq_eq_false_iff_ne];omega)
 have c24:=fun W (_:ai [g] w W)=>hp1 W
 have c25:=hp2
 have c27:=fun W=>(lQ (.tmp 25) (.tmp 26) x s W).trans (by rw[decide_eq_true hs])
 have c33:=my (i:=i) (by omega)
 have h0:Sx.j6.val (Value.bool false)=.val (.bool false):=rfl
 have z1:[(g,154,dJ A n c (i))]=[(g,154,dJ A n c (i))]:=rfl
 refine Sx.dx (args:=[.ptr 0 0,.val (.string ⟨s.toArray⟩)]) [(g,154,dJ A n c i)] (by simpa using hb) (by simp) PP [(14,.is (.bool false)),(24,.any p),(25,.any (.string ⟨x.toArray⟩)),(27,.bin (.bool true)),(33,.is (.int .i64 ((i+1:Nat):Int)))] [] (by kernel_rfl) func152 rfl (cn rfl) rfl ?_
 exact Eq.mp (by kernel_rfl) (Sx.t4 c14 c24 c25 c27 (And.intro h0 z1))
theorem Ie(g:Nat)(A:Option Go.Addr)(n c i:Nat)(ws:List (List UInt8))(x s:List UInt8)(hn:n≤1000000)(w:World)(hb:au w g 154 (dJ A n c i))(hw:Cd w [g] A n ws)(hx:ws[i]?=some x)(hs:x=s)(PP:List PanicEntry→World→Prop):Calls prog 152 #[.pointer (some ⟨g,0,none⟩),.string ⟨s.toArray⟩] w (Sx.ew ⟨w,[g],PP⟩ (SD g (.bool true) (dJ A n c (i+1)))):=by
 have hi:i < n:=by rw[←hw.len];exact(List.getElem?_eq_some_iff.1 hx).1
 obtain⟨p,hp1,hp2⟩:=hw.at (c:=c) hx
 have c14:Value.bool ((i:Int)==(n:Int))=.bool false:=ib (by rw[beq_eq_false_iff_ne];omega)
 have c24:=fun W (_:ai [g] w W)=>hp1 W
 have c25:=hp2
 have c27:=fun W=>(lQ (.tmp 25) (.tmp 26) x s W).trans (by rw[decide_eq_false (fun h=>h hs)])
 have c33:=my (i:=i) (by omega)
 have h0:Sx.j6.val (Value.bool true)=.val (.bool true):=rfl
 have z1:[(g,154,dJ A n c (i+1))]=[(g,154,dJ A n c (i+1))]:=rfl
 refine Sx.dx (args:=[.ptr 0 0,.val (.string ⟨s.toArray⟩)]) [(g,154,dJ A n c i)] (by simpa using hb) (by simp) PP [(14,.is (.bool false)),(24,.any p),(25,.any (.string ⟨x.toArray⟩)),(27,.bin (.bool false)),(33,.is (.int .i64 ((i+1:Nat):Int)))] [] (by kernel_rfl) func152 rfl (cn rfl) rfl ?_
 exact Eq.mp (by kernel_rfl) (Sx.t4 c14 c24 c25 c27 (Sx.t2 c33 h0 z1))
open Go.RowKit Go.Lib Go.Sort _root_.Go.Proofs.Tryz
theorem qg:∀(l:List UInt8) (acc:Nat),(∀c∈l,∃d,d < 10∧c=sig d)→l.foldl (fun a c=>10*a+tn c) acc < 18446744073709551616→Lib.parseUint10 acc l=.ok (l.foldl (fun a c=>10*a+tn c) acc)
 | [],acc,_,_=>rfl
 |c::l,acc,h,hn=>by
  obtain⟨d,hd,rfl⟩:=h c (by simp)
  have h1:=iM (d:=d) (by omega)
  rw[if_pos hd]at h1
  rw[List.foldl_cons]at hn ⊢
  have h2:=yT (b:=10) (by omega) l (10*acc+tn (sig d))
  have h3:tn (sig d)=d:=qF (by omega)
  unfold Lib.parseUint10
  rw[if_pos (by omega),if_neg (by omega),if_neg (by omega)]
  rw[show acc*10+((sig d).toNat - 48)=10*acc+tn (sig d)by omega]
  exact qg l _ (fun c hc=>h c (by simp[hc])) hn
theorem Am(n:Nat)(hn:n < 18446744073709551616):Lib.parseUint10 0 (aj 10 n)=.ok n:=by
 have hv:(aj 10 n).foldl (fun a c=>10*a+tn c) 0=n:=jE (b:=10) (by omega) (by omega) n
 rw[qg (aj 10 n) 0 (lz (by omega) n) (by rw[hv];exact hn),hv]
theorem Fc(n:Nat)(hn:n < 18446744073709551616)(w:World)(hl:eb w):Calls prog 73 #[.int .u64 n,.int .i64 10] w fun e w'=>e=.returned (.string ⟨(aj 10 n).toArray⟩)∧ai [] w w':=by
 have H:Calls prog 143 #[.int .u64 n,.int .i64 10] w fun e w'=>e=.returned (.string ⟨(aj 10 n).toArray⟩)∧ai [] w w':=by
  by_cases h:n < 100
  ·exact zQ n h w
  ·exact KZ n (by omega) hn w hl
 go_enter func73,ntmps73
 go_wp2_with (go_at_call 143;refine H.mono ?_;rintro e w2 ⟨rfl,C2⟩)
 go_ret
 exact⟨rfl,C2⟩
end Go.Proofs.YtnncigmpcdehnaaGreatDoor
