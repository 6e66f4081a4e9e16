import Derived.Test.YtnncigmpcdehnaaGreatDoorQd13
namespace Go.Proofs.YtnncigmpcdehnaaGreatDoor
open Go.RowKit Go.Lib Go.Sort
def u8(c:UInt8):Value:=.int .u8 (c.toNat:Int)
theorem gy(s:List UInt8)(i:Nat)(c:UInt8)(h:s[i]?=some c)(W:World):(Instr.index 9 (.string ⟨s.toArray⟩) (.int .i64 (i:Int))).run Tryz.prog W=.ok (u8 c) W:=by
 obtain⟨hlt,hc⟩:=List.getElem?_eq_some_iff.1 h
 rw[run_index_string W 9 ⟨s.toArray⟩ .i64 (i:Int) Tryz.underlying9,dif_pos ⟨by omega,by simpa[ByteArray.size]using hlt⟩]
 subst hc
 simp[u8,ByteArray.getElem_eq_getElem_data]
theorem jF(s:List UInt8):Value.int .i64 (((⟨s.toArray⟩:ByteArray).size:Nat):Int)=.int .i64 (s.length:Int):=iw (by simp[ByteArray.size])
theorem gv{b:Bool}(h:b=true):Value.bool b=.bool true:=by rw[h]
theorem gZ{b:Bool}(h:b=false):Value.bool b=.bool false:=by rw[h]
set_option maxRecDepth 100000
open Go.RowKit Go.Lib Go.Sort
theorem Ag.up{code at_:Int}{w W w':World}{chain:List PanicEntry}(h:Ag code at_ W chain w')(hs:w.heap.size≤W.heap.size):Ag code at_ w chain w':=by
 obtain⟨N,h1,h2,h3⟩:=h
 exact⟨N,h1,Nat.le_trans hs h2,h3⟩
theorem je{P:Program}{f:FuncId}{args:Array Value}{b:Sx.bb}{W:World}{vs:List Value}{ps:List (Nat×Nat)}(h:Calls P f args W fun e w'=>∃chain,e=.panicked chain∧b.PP chain w'∧ag [] W w'):Calls P f args W (Sx.rB b W vs (.Cl ps)):=
 h.mono fun _ _ ⟨ch,he,hp,hc⟩=>⟨ch,[],he,hp,hc,fun _ hx=>by cases hx⟩
theorem I9(g:Nat)(ws:Value)(at_ code:Int)(w:World)(hb:aq w g 154 [ws,.int .i64 at_]):Calls Tryz.prog 191 #[.pointer (some ⟨g,0,none⟩),.bool false,.int .i64 code] w (Sx.gp ⟨w,[g],Ag code at_ w⟩ fun _ _=>False):=by
 have c14:=fun W (hW:ag [g] w W) (_:aq W g 154 [ws,.int .i64 at_])=>je (b:=⟨w,[g],Ag code at_ w⟩) (vs:=[.pointer (some ⟨g,0,none⟩),.int .i64 code,.int .i64 at_]) (ps:=[(0,0)]) ((ow (.pointer (some ⟨g,0,none⟩)) code at_ W).mono fun _ _ ⟨ch,he,hf,hc⟩=>⟨ch,he,hf.up hW.size,hc⟩)
 have z0:=trivial
 refine Sx.gQ (args:=[.ptr 0 0,.val (.bool false),.val (.int .i64 code)]) [(g,154,[ws,.int .i64 at_])] (by simpa using hb) (by simp) (Ag code at_ w) [(14,.nL)] [] (by kernel_rfl) Tryz.func191 rfl (Nat.le_of_ble_eq_true rfl) rfl ?_
 exact Eq.mp (by kernel_rfl) (And.intro c14 z0)
theorem Fb(lp:Value)(code:Int)(w:World):Calls Tryz.prog 191 #[lp,.bool true,.int .i64 code] w fun e w'=>e=.returned (.tuple #[])∧ag [] w w':=by
 have z0:Value.tuple #[]=.tuple #[]:=rfl
 refine Sx.aG (args:=[lp,.bool true,.int .i64 code]) [] [] (by kernel_rfl) Tryz.func191 rfl (Nat.le_of_ble_eq_true rfl) ?_
 exact Eq.mp (by kernel_rfl) z0
def dr(A:Option Go.Addr)(n c:Nat)(at_:Nat):List Value:=[.slice A n c,.int .i64 (at_:Int)]
theorem J6(g:Nat)(A:Option Go.Addr)(n c:Nat)(hn:n≤1000000)(w:World)(hb:aq w g 154 (dr A n c n)):Calls Tryz.prog 154 #[.pointer (some ⟨g,0,none⟩)] w (Sx.gp ⟨w,[g],Ag 200 ((n:Int)+1) w⟩ fun _ _=>False):=by
 have c12:Value.bool ((n:Int)==(n:Int))=.bool true:=gv (by simp)
 have c18:Value.int .i64 (IntKind.i64.wrap ((n:Int)+1))=.int .i64 ((n:Int)+1):=iw (gE (by omega) (by omega))
 have c19:=fun W (hW:ag [g] w W) (_:aq W g 154 (dr A n c n))=>je (b:=⟨w,[g],Ag 200 ((n:Int)+1) w⟩) (vs:=[.pointer (some ⟨g,0,none⟩),.int .i64 200,.int .i64 ((n:Int)+1)]) (ps:=[(0,0)]) ((ow (.pointer (some ⟨g,0,none⟩)) 200 ((n:Int)+1) W).mono fun _ _ ⟨ch,he,hf,hc⟩=>⟨ch,he,hf.up hW.size,hc⟩)
 have z0:=trivial
 refine Sx.gQ (args:=[.ptr 0 0]) [(g,154,dr A n c n)] (by simpa using hb) (by simp) (Ag 200 ((n:Int)+1) w) [(12,.is (.bool true)),(18,.is (.int .i64 ((n:Int)+1))),(19,.nL)] [] (by kernel_rfl) Tryz.func154 rfl (Nat.le_of_ble_eq_true rfl) rfl ?_
 exact Eq.mp (by kernel_rfl) (Sx.t2 c12 c18 (And.intro c19 z0))
open Go Go.RowKit Go.Lib Go.Sort
theorem Jx{P:Program}{t:TypeId}{b off:Nat}{d:TypeDesc}{v:Value}(hu:P.underlying t=some d)(hd:d.isRow=false){W:World}(hc:W.cell? ⟨b,off,none⟩=some v) :
  (Instr.loadAt t (.pointer (some ⟨b,off,none⟩))).run P W=.ok v W:=by
 have hagg:(isAgg t).run P W=.ok false W:=by
  unfold isAgg
  rw[Sem.run_bind,run_underlying hu W]
  cases d<;>simp_all
 rw[Sx.oP]
 simp[loadVar,Sem.run_bind,hagg,load,Sem.run,hc]
set_option maxRecDepth 100000
open Go.RowKit Go.Lib Go.Sort
structure zZ(w:World)(S:List Nat)(A:Option Go.Addr)(n:Nat)(ws:List (List UInt8)):Prop where
 len:ws.length=n
 row:0 < n→∃b o,A=some ⟨b,o,none⟩∧b∉S∧b < w.heap.size∧∀(j:Nat) (x:List UInt8),ws[j]?=some x→w.cell? ⟨b,o+j,none⟩=some (.string ⟨x.toArray⟩)
theorem zZ.aF{w w':World}{S:List Nat}{A:Option Go.Addr}{n:Nat}{ws:List (List UInt8)}(h:zZ w S A n ws)(hc:ag S w w'):zZ w' S A n ws:=
 ⟨h.len,fun h0=>by
  obtain⟨b,o,h1,h2,h3,h4⟩:=h.row h0
  exact⟨b,o,h1,h2,Nat.lt_of_lt_of_le h3 hc.size,fun j x hx=>(hc.cell (p:=⟨b,o+j,none⟩) h3 h2).trans (h4 j x hx)⟩⟩
theorem zZ.sub{w:World}{S S':List Nat}{A:Option Go.Addr}{n:Nat}{ws:List (List UInt8)}(h:zZ w S A n ws)(hs:∀x∈S',x∈S):zZ w S' A n ws:=
 ⟨h.len,fun h0=>by
  obtain⟨b,o,h1,h2,h3,h4⟩:=h.row h0
  exact⟨b,o,h1,fun hb=>h2 (hs b hb),h3,h4⟩⟩
theorem zZ.cons{w w':World}{S:List Nat}{A:Option Go.Addr}{n x:Nat}{ws:List (List UInt8)}(h:zZ w S A n ws)(hc:ag S w w')(hx:w.heap.size≤x):zZ w' (x::S) A n ws:=
 ⟨h.len,fun h0=>by
  obtain⟨b,o,h1,h2,h3,h4⟩:=h.row h0
  refine⟨b,o,h1,fun hb=>?_,Nat.lt_of_lt_of_le h3 hc.size,fun j y hy=>(hc.cell (p:=⟨b,o+j,none⟩) h3 h2).trans (h4 j y hy)⟩
  rcases List.mem_cons.1 hb with rfl|hb
  ·omega
  ·exact h2 hb⟩
theorem zZ.at{w:World}{S:List Nat}{A:Option Go.Addr}{n c:Nat}{ws:List (List UInt8)}(h:zZ w S A n ws){i:Nat}{x:List UInt8}(hx:ws[i]?=some x) :
  ∃p,(∀W,(Instr.indexAt 70 (.slice A n c) (.int .i64 (i:Int))).run Tryz.prog W=.ok p W)∧∀W,ag S w W→(Instr.loadAt 9 p).run Tryz.prog W=.ok (.string ⟨x.toArray⟩) W:=by
 have hi:i < n:=by rw[←h.len];exact(List.getElem?_eq_some_iff.1 hx).1
 obtain⟨b,o,rfl,hb,_,hr⟩:=h.row (by omega)
 refine⟨.pointer (some ⟨b,o+i,none⟩),fun W=>?_,fun W hW=>?_⟩
 ·have hs:(Tryz.prog.info? 9).map (·.size)=some 1:=by kernel_rfl
  cases hq:Tryz.prog.info? 9 with
  |none=>rw[hq]at hs;cases hs
  |some inf=>
   rw[hq]at hs
   have hs:inf.size=1:=by simpa using hs
   simp[Instr.indexAt,run_underlying Tryz.underlying70,asIntOf,hi,sizeOf,typeInfo,hq,hs,Addr.add_lit]
 ·obtain⟨_,_,h1,_,_,h4⟩:=(h.aF hW).row (by omega)
  injection h1 with h1
  injection h1 with h1 h2 h3
  subst h1 h2
  exact Jx Tryz.underlying9 rfl (h4 i x hx)
set_option maxRecDepth 100000
open Go.RowKit Go.Lib Go.Sort
def OT(g:Nat)(v:Value)(cs:List Value)(r:Sx.lC)(gl:List (Nat×TypeId×List Value)):Prop:=r=.val v∧gl=[(g,154,cs)]
theorem Gt(g:Nat)(A:Option Go.Addr)(n c i:Nat)(ws:List (List UInt8))(x:List UInt8)(hn:n≤1000000)(w:World)(hb:aq w g 154 (dr A n c i))(hw:zZ w [g] A n ws)(hx:ws[i]?=some x)(PP:List PanicEntry→World→Prop):Calls Tryz.prog 154 #[.pointer (some ⟨g,0,none⟩)] w (Sx.gp ⟨w,[g],PP⟩ (OT g (.string ⟨x.toArray⟩) (dr A n c (i+1)))):=by
 have hi:i < n:=by rw[←hw.len];exact(List.getElem?_eq_some_iff.1 hx).1
 obtain⟨p,hp1,hp2⟩:=hw.at (c:=c) hx
 have c12:Value.bool ((i:Int)==(n:Int))=.bool false:=gZ (by rw[beq_eq_false_iff_ne];omega)
 have c24:Value.int .i64 (IntKind.i64.wrap ((i:Int)+1))=.int .i64 ((i+1:Nat):Int):=iw (by rw[gE (by omega) (by omega)];rfl)
 have c35:Value.int .i64 (IntKind.i64.wrap (((i+1:Nat):Int) - 1))=.int .i64 (i:Int):=iw (by rw[gE (by omega) (by omega)]; omega)
 have c36:=fun W (_:ag [g] w W)=>hp1 W
 have c37:=hp2
 have h0:Sx.lC.val (Value.string ⟨x.toArray⟩)=.val (.string ⟨x.toArray⟩):=rfl
 have z1:[(g,154,dr A n c (i+1))]=[(g,154,dr A n c (i+1))]:=rfl
 refine Sx.gQ (args:=[.ptr 0 0]) [(g,154,dr A n c i)] (by simpa using hb) (by simp) PP [(12,.is (.bool false)),(24,.is (.int .i64 ((i+1:Nat):Int))),(35,.is (.int .i64 (i:Int))),(36,.any p),(37,.any (.string ⟨x.toArray⟩))] [] (by kernel_rfl) Tryz.func154 rfl (Nat.le_of_ble_eq_true rfl) rfl ?_
 exact Eq.mp (by kernel_rfl) (Sx.t4 c12 c24 c35 c36 (Sx.t2 c37 h0 z1))
open Go.RowKit Go.Lib Go.Sort
theorem OK(x y:Operand)(v v':Bool)(n m:Nat)(k j:Int)(hn:n < 2^128)(hm:m < 2^128)(hk : -9223372036854775808≤k∧k≤9223372036854775807)(hj : -9223372036854775808≤j∧j≤9223372036854775807)(W:World):(do eqGuard .neq 29 x y (.agg (cV v n k).toArray) (.agg (cV v' m j).toArray); binOp .neq 29 (.agg (cV v n k).toArray) (.agg (cV v' m j).toArray):Sem Value).run Tryz.prog W=.ok (.bool (!decide (v=v'∧n=m∧k=j))) W:=by
 have h:=PD v v' n m k j hn hm hk hj W
 rw[Sem.run_bind,Kw,Result.andThen_ok]
 show(do pure (.bool (!(←Op.equal 29 (.agg (cV v n k).toArray) (.agg (cV v' m j).toArray)))):Sem Value).run Tryz.prog W=_
 rw[Sem.run_bind,show(Op.equal 29 (.agg (cV v n k).toArray) (.agg (cV v' m j).toArray)).run Tryz.prog W=_ from h]
 rfl
theorem M7(x y:Operand)(s t:ByteArray)(W:World):(do eqGuard .neq 9 x y (.string s) (.string t);binOp .neq 9 (.string s) (.string t):Sem Value).run Tryz.prog W=.ok (.bool (!(s.toList==t.toList))) W:=rfl
theorem Ob{P:Program}{s:Sem Value}{W:World}{a b:Bool}(h:s.run P W=.ok (.bool a) W)(e:a=b):s.run P W=.ok (.bool b) W:=by rw[←e];exact h
theorem r9{s:List UInt8}{v:Bool}{n:Nat}{k:Int}(h:Af s v n k)(hs:s.length≤100000000)(w:World)(HL:dJ w):Calls Tryz.prog 16 #[.string ⟨s.toArray⟩] w fun e w'=>e=.returned (.tuple #[.agg (cV v n k).toArray,.int .i64 0])∧ag [] w w':=by
 refine(FY s hs w HL).mono ?_
 rintro e w' ⟨v',n',k',er,rfl,hC,hh⟩
 rcases hh with⟨rfl,_,hu⟩ | ⟨_,_,_,_,hu⟩
 ·obtain⟨rfl,rfl,rfl⟩:=hu _ _ _ h
  exact⟨rfl,hC⟩
 ·exact absurd h (hu _ _ _)
theorem JB{s:List UInt8}(h:∀v n k,¬Af s v n k)(hs:s.length≤100000000)(w:World)(HL:dJ w):Calls Tryz.prog 16 #[.string ⟨s.toArray⟩] w fun e w'=>e=.returned (.tuple #[.agg (cV false 0 0).toArray,.int .i64 151])∧ag [] w w':=by
 refine(FY s hs w HL).mono ?_
 rintro e w' ⟨v',n',k',er,rfl,hC,hh⟩
 rcases hh with⟨rfl,hp,_⟩ | ⟨rfl,rfl,rfl,rfl,_⟩
 ·exact absurd hp (h _ _ _)
 ·exact⟨rfl,hC⟩
theorem Dj{v:Bool}{n:Nat}{k:Int}(h1:k≤wid v):(ly v n k).length≤100000000:=by
 have h2:=eV v
 have h3:=pT v n
 have h4:=gO (u:=k.toNat) (by omega)
 unfold ly
 simp only[List.length_append,List.length_cons]
 omega
set_option maxRecDepth 100000
open Go.RowKit Go.Lib Go.Sort
theorem oM(x y:Operand)(s t:List UInt8)(W:World):(do eqGuard .neq 9 x y (.string ⟨s.toArray⟩) (.string ⟨t.toArray⟩);binOp .neq 9 (.string ⟨s.toArray⟩) (.string ⟨t.toArray⟩):Sem Value).run Tryz.prog W=.ok (.bool (decide (s≠t))) W:=by
 refine Ob (M7 x y _ _ W) ?_
 have e:∀l:List UInt8,(⟨l.toArray⟩:ByteArray).toList=l:=fun l=>by simp
 rw[e,e]
 by_cases h:s=t<;>simp[h]
theorem Fs(g:Nat)(A:Option Go.Addr)(n c:Nat)(s:List UInt8)(w:World)(hb:aq w g 154 (dr A n c n))(PP:List PanicEntry→World→Prop):Calls Tryz.prog 152 #[.pointer (some ⟨g,0,none⟩),.string ⟨s.toArray⟩] w (Sx.gp ⟨w,[g],PP⟩ (OT g (.bool false) (dr A n c n))):=by
 have c14:Value.bool ((n:Int)==(n:Int))=.bool true:=gv (by simp)
 have h0:Sx.lC.val (Value.bool false)=.val (.bool false):=rfl
 have z1:[(g,154,dr A n c n)]=[(g,154,dr A n c n)]:=rfl
 refine Sx.gQ (args:=[.ptr 0 0,.val (.string ⟨s.toArray⟩)]) [(g,154,dr A n c n)] (by simpa using hb) (by simp) PP [(14,.is (.bool true))] [] (by kernel_rfl) Tryz.func152 rfl (Nat.le_of_ble_eq_true rfl) rfl ?_
 exact Eq.mp (by kernel_rfl) (Sx.t2 c14 h0 z1)
theorem Jf(g:Nat)(A:Option Go.Addr)(n c i:Nat)(ws:List (List UInt8))(x s:List UInt8)(hn:n≤1000000)(w:World)(hb:aq w g 154 (dr A n c i))(hw:zZ w [g] A n ws)(hx:ws[i]?=some x)(hs:x≠s)(PP:List PanicEntry→World→Prop):Calls Tryz.prog 152 #[.pointer (some ⟨g,0,none⟩),.string ⟨s.toArray⟩] w (Sx.gp ⟨w,[g],PP⟩ (OT g (.bool false) (dr A n c (i)))):=by
 have hi:i < n:=by rw[←hw.len];exact(List.getElem?_eq_some_iff.1 hx).1
 obtain⟨p,hp1,hp2⟩:=hw.at (c:=c) hx
 have c14:Value.bool ((i:Int)==(n:Int))=.bool false:=gZ (by rw[beq_eq_false_iff_ne];omega)
 have c24:=fun W (_:ag [g] w W)=>hp1 W
 have c25:=hp2
 have c27:=fun W=>(oM (.tmp 25) (.tmp 26) x s W).trans (by rw[decide_eq_true hs])
 have c33:Value.int .i64 (IntKind.i64.wrap ((i:Int)+1))=.int .i64 ((i+1:Nat):Int):=iw (by rw[gE (by omega) (by omega)];rfl)
 have h0:Sx.lC.val (Value.bool false)=.val (.bool false):=rfl
 have z1:[(g,154,dr A n c (i))]=[(g,154,dr A n c (i))]:=rfl
 refine Sx.gQ (args:=[.ptr 0 0,.val (.string ⟨s.toArray⟩)]) [(g,154,dr A n c i)] (by simpa using hb) (by simp) PP [(14,.is (.bool false)),(24,.any p),(25,.any (.string ⟨x.toArray⟩)),(27,.bin (.bool true)),(33,.is (.int .i64 ((i+1:Nat):Int)))] [] (by kernel_rfl) Tryz.func152 rfl (Nat.le_of_ble_eq_true rfl) rfl ?_
 exact Eq.mp (by kernel_rfl) (Sx.t4 c14 c24 c25 c27 (And.intro h0 z1))
theorem Fq(g:Nat)(A:Option Go.Addr)(n c i:Nat)(ws:List (List UInt8))(x s:List UInt8)(hn:n≤1000000)(w:World)(hb:aq w g 154 (dr A n c i))(hw:zZ w [g] A n ws)(hx:ws[i]?=some x)(hs:x=s)(PP:List PanicEntry→World→Prop):Calls Tryz.prog 152 #[.pointer (some ⟨g,0,none⟩),.string ⟨s.toArray⟩] w (Sx.gp ⟨w,[g],PP⟩ (OT g (.bool true) (dr A n c (i+1)))):=by
 have hi:i < n:=by rw[←hw.len];exact(List.getElem?_eq_some_iff.1 hx).1
 obtain⟨p,hp1,hp2⟩:=hw.at (c:=c) hx
 have c14:Value.bool ((i:Int)==(n:Int))=.bool false:=gZ (by rw[beq_eq_false_iff_ne];omega)
 have c24:=fun W (_:ag [g] w W)=>hp1 W
 have c25:=hp2
 have c27:=fun W=>(oM (.tmp 25) (.tmp 26) x s W).trans (by rw[decide_eq_false (fun h=>h hs)])
 have c33:Value.int .i64 (IntKind.i64.wrap ((i:Int)+1))=.int .i64 ((i+1:Nat):Int):=iw (by rw[gE (by omega) (by omega)];rfl)
 have h0:Sx.lC.val (Value.bool true)=.val (.bool true):=rfl
 have z1:[(g,154,dr A n c (i+1))]=[(g,154,dr A n c (i+1))]:=rfl
 refine Sx.gQ (args:=[.ptr 0 0,.val (.string ⟨s.toArray⟩)]) [(g,154,dr A n c i)] (by simpa using hb) (by simp) PP [(14,.is (.bool false)),(24,.any p),(25,.any (.string ⟨x.toArray⟩)),(27,.bin (.bool false)),(33,.is (.int .i64 ((i+1:Nat):Int)))] [] (by kernel_rfl) Tryz.func152 rfl (Nat.le_of_ble_eq_true rfl) rfl ?_
 exact Eq.mp (by kernel_rfl) (Sx.t4 c14 c24 c25 c27 (Sx.t2 c33 h0 z1))
open Go.RowKit Go.Lib Go.Sort
theorem oY:∀(l:List UInt8) (acc:Nat),(∀c∈l,∃d,d < 10∧c=sig d)→l.foldl (fun a c=>10*a+ru c) acc < 18446744073709551616→Lib.parseUint10 acc l=.ok (l.foldl (fun a c=>10*a+ru c) acc)
 | [],acc,_,_=>rfl
 |c::l,acc,h,hn=>by
  obtain⟨d,hd,rfl⟩:=h c (by simp)
  have h1:=gU (d:=d) (by omega)
  rw[if_pos hd]at h1
  rw[List.foldl_cons]at hn ⊢
  have h2:=wM (b:=10) (by omega) l (10*acc+ru (sig d))
  have h3:ru (sig d)=d:=pA (by omega)
  unfold Lib.parseUint10
  rw[if_pos (by omega),if_neg (by omega),if_neg (by omega)]
  rw[show acc*10+((sig d).toNat - 48)=10*acc+ru (sig d)by omega]
  exact oY l _ (fun c hc=>h c (by simp[hc])) hn
theorem yg(n:Nat)(hn:n < 18446744073709551616):Lib.parseUint10 0 (ak 10 n)=.ok n:=by
 have hv:(ak 10 n).foldl (fun a c=>10*a+ru c) 0=n:=iV (b:=10) (by omega) (by omega) n
 rw[oY (ak 10 n) 0 (ko (by omega) n) (by rw[hv];exact hn),hv]
theorem CS(n:Nat)(hn:n < 18446744073709551616)(w:World)(hl:dJ w):Calls Tryz.prog 73 #[.int .u64 n,.int .i64 10] w fun e w'=>e=.returned (.string ⟨(ak 10 n).toArray⟩)∧ag [] w w':=by
 have H:Calls Tryz.prog 143 #[.int .u64 n,.int .i64 10] w fun e w'=>e=.returned (.string ⟨(ak 10 n).toArray⟩)∧ag [] w w':=by
  by_cases h:n < 100
  ·exact xK n h w
  ·exact Io n (by omega) hn w hl
 go_enter Tryz.func73,Tryz.ntmps73
 go_wp2_with (go_at_call 143;refine H.mono ?_;rintro e w2 ⟨rfl,C2⟩)
 go_ret
 exact⟨rfl,C2⟩
end Go.Proofs.YtnncigmpcdehnaaGreatDoor
