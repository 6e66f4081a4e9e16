import Derived.Test.YtnncigmpcdehnaaGreatDoorQd30
namespace Go.Proofs.YtnncigmpcdehnaaGreatDoor
set_option maxRecDepth 100000
open Go Go.RowKit Go.Lib Go.Sort
theorem yP{w:World}{A:Option Go.Addr}{n c:Nat}{xs:List (List UInt8)}(h:Own w 9 1 (.slice A n c) n (strs xs))(sep:UInt8)(hN:n≤140737488355328)(hlen:(ao sep xs).length≤140737488355328) :
  Calls Tryz.prog 87 #[.slice A n c,.string ⟨#[sep]⟩] w fun e w'=>e=.returned (ab (ao sep xs))∧ag [] w w':=by
 have hl:xs.length=n:=by have:=h.len;simpa[strs]using this
 by_cases h0:n=0
 ·subst h0
  have:xs=[]:=List.eq_nil_of_length_eq_zero hl
  subst this
  exact(Tryz.strings_Join_none A c ⟨#[sep]⟩ w).mono fun e w' ⟨h1,h2⟩=>⟨h1,by rw[h2];exact ag.refl _ _⟩
 ·obtain⟨g,o,c',hv,hnc,_,hg⟩:=h.some_ (by omega)
  injection hv with hA _ hc
  subst hA hc
  have hj:=Tryz.strings_Join g o c (xs.map fun l=>(⟨l.toArray⟩:ByteArray)) ⟨#[sep]⟩ w (fun j x hx=>by
   have:=h.jn j _ (BU hx)
   rwa [Lib.add_plain]at this) hg (by simpa[hl]using hN) (by simpa[hl]using hnc) (by rw[pC,show(⟨#[sep]⟩:ByteArray).data.toList=[sep]from rfl,mj];exact hlen)
  rw[pC,show(⟨#[sep]⟩:ByteArray).data.toList=[sep]from rfl,mj,List.length_map,hl]at hj
  exact hj.mono fun e w' ⟨h1,h2⟩=>⟨h1,ag.dv h2⟩
def BR(g:Nat)(p:Bool)(tx:Bs)(e:Int):List Sx.Row:=[cN (some g) [.cw p 0 0,.own 1,.val (.int .i64 e)],⟨5,.own 1 tx.length (iU tx)⟩]
def Lg(g:Nat)(tx:Bs)(e:Int)(l:List Sx.SV)(mem:List Sx.Row):Prop:=
 ∃k,l=[]∧mem[0]?=some (cN (some g) [.cw true 0 0,.own k,.val (.int .i64 e)])∧mem[k]?=some ⟨5,.own 1 tx.length (iU tx)⟩
theorem lr.iC{g:Nat}{A:Option Go.Addr}{tx:Bs}{e:Int}{w:World}{en:Ending}{w':World}(h:Sx.cd ⟨w,oJ g A,fun _ _=>False⟩ (Lg g tx e) en w'):lr g A (.tuple #[]) tx e w en w':=by
 rcases h with⟨β,l,mem,⟨k,rfl,h0,hk⟩,he,hR⟩ | ⟨_,_,hf,_⟩
 ·have r0:=kE.1 (hR.held 0 _ h0)
  have rk:β.n k=tx.length∧Own w' 5 1 (.slice (β.a k) tx.length (β.c k)) tx.length (iU tx):=hR.held k _ hk
  have hg:β 0=g:=r0.1 g rfl
  have hb:=r0.2
  have e1:([Sx.SV.cw true 0 0,.own k,.val (.int .i64 e)].map (Sx.SV.den β))=[pV true (β 0),β.sl k,.int .i64 e]:=rfl
  rw[e1,hg]at hb
  unfold Sx.Env.sl at hb
  rw[rk.1]at hb
  refine⟨β.a k,β.c k,he,⟨hb,rk.2⟩,hR.aF,fun x hx=>?_⟩
  rcases hR.new k _ x hk hx with h1|h1
  ·rcases List.mem_cons.1 h1 with rfl|h1
   ·exact absurd (by rw[Dq];exact hx) (rk.2.Cx hb (show(5:Nat)≠132 by decide))
   ·exact .inl (by simpa using h1)
  ·exact .inr h1
 ·exact hf.elim
theorem BQ{w:World}{f:FuncId}{fn:Func}{co:Code}{g:Nat}{p:Bool}{A:Option Go.Addr}{c:Nat}{tx tx':Bs}{e e':Int}(rest:List Value)(h:Tx w g p A c tx e)(H:List (Nat×Sx.Hint))(L:List Sx.Loop)
  (hm:Tryz.prog.follows .mixedOrders=true) (hf:Tryz.prog.funcs[f]?=some fn) (hb:fn.body=some co) (hn:(rest.length+1)≤fn.ntmps)
  (hx:Sx.jk Tryz.prog fn.ntmps ⟨w,oJ g A,fun _ _=>False⟩ co H L ⟨Sx.lB 0 (.ptr 0 0::rest.map .val),BR g p tx e⟩ (Sx.bR Tryz.prog fn (Lg g tx' e'))) :
  Calls Tryz.prog f (.pointer (some ⟨g,0,none⟩)::rest).toArray w (lr g A (.tuple #[]) tx' e' w):=by
 have hrows:Sx.Rows ⟨w,oJ g A,fun _ _=>False⟩ (Sx.cL [.mz g 132 [.cw p 0 0,.own 1,.val (.int .i64 e)],.own 5 1 A tx.length c (iU tx)]) w (BR g p tx e):=by
  refine Sx.gb (w:=w) (S:=oJ g A) (PP:=fun _ _=>False) (G:=[.mz g 132 [.cw p 0 0,.own 1,.val (.int .i64 e)],.own 5 1 A tx.length c (iU tx)]) (fun q hq=>?_) (fun q hq k hk=>?_) ?_
  ·rcases List.mem_cons.1 hq with rfl|hq
   ·exact h.bZ
   ·rw[List.mem_singleton.1 hq];exact h.own
  ·rcases List.mem_cons.1 hq with rfl|hq
   ·cases hk;simp[oJ]
   ·rw[List.mem_singleton.1 hq]at hk
    have hk:A.map (·.block)=some k:=hk
    unfold oJ;rw[hk];simp
  ·have:([Sx.jP.mz g 132 [.cw p 0 0,.own 1,.val (.int .i64 e)],.own 5 1 A tx.length c (iU tx)].filterMap Sx.jP.block)=[g]++(A.map (·.block)).toList:=by
    cases A<;>rfl
   rw[this,List.singleton_append,List.nodup_cons]
   refine⟨fun hm=>h.ne ?_,?_⟩
   ·rw[Dq];simpa using hm
   ·cases A<;>simp
 have:=Sx.aY (args:=.ptr 0 0::rest.map .val) hrows H L hm hf hb (by simpa using hn) (by
  have:∀l:List Value,Sx.eR (Sx.xE 2) (l.map .val)=true:=fun l=>by
   induction l with
   |nil=>rfl
   |cons x l ih=>exact ih
  exact this rest) hx
 have ea:((.ptr 0 0::rest.map .val:List Sx.SV).map (Sx.SV.den (Sx.cL [.mz g 132 [.cw p 0 0,.own 1,.val (.int .i64 e)],.own 5 1 A tx.length c (iU tx)])))=.pointer (some ⟨g,0,none⟩)::rest:=by
  rw[List.map_cons,List.map_map]
  have:(Sx.SV.den (Sx.cL [.mz g 132 [.cw p 0 0,.own 1,.val (.int .i64 e)],.own 5 1 A tx.length c (iU tx)]) ∘ Sx.SV.val)=id:=rfl
  rw[this,List.map_id]
  rfl
 rw[ea]at this
 exact this.mono fun en w' hp=>lr.iC hp
theorem CE{w:World}{g:Nat}{p:Bool}{A B:Option Go.Addr}{c m cc:Nat}{tx:Bs}{e:Int}(ws:List Bs)(h:Tx w g p A c tx e)(hw:Own w 9 1 (.slice B m cc) m (strs ws))(hm:m≤1000000000)(hl:tx.length+(iD ws).length≤140737488355328) :
  Calls Tryz.prog 70 #[.pointer (some ⟨g,0,none⟩),.slice B m cc] w (lr g A (.tuple #[]) (tx++iD ws) e w):=by
 have hS:∀k,(Value.slice B m cc).ownBlock=some k→k∉oJ g A:=fun k hk hm=>by
  rcases List.mem_cons.1 hm with rfl|hm
  ·exact hw.Cx h.bZ (by decide) hk
  ·exact hw.Gu h.own (by decide) k hk (by rw[Dq];simpa using hm)
 have hll:(iD ws).length=(ao 32 ws).length+1:=by simp[iD]
 have c8:=fun W (hW:ag (oJ g A) w W)=>yP (hw.aF hW hS) 32 (by omega) (by omega)
 have c9:=fun W=>bN (.tmp 8) (.const (.string ⟨#[10]⟩)) (ao 32 ws) [10] (by show(ao 32 ws).length+1≤_;omega) W
 have c10:=fun W (β:Sx.Env) (hs:Sx.dP ⟨w,oJ g A,fun _ _=>False⟩ β W (Sx.rowAt (BR g p tx e)) [0,1])=>(show Calls Tryz.prog 141 (([.ptr 0 0,.val (ab (iD ws))]:List Sx.SV).map (Sx.SV.den β)).toArray W (Sx.aP ⟨w,oJ g A,fun _ _=>False⟩ β W (Sx.rowAt (BR g p tx e)) 2 (xx [] 0 1 2 (some g) (tx++iD ws) e (.tuple #[.int .i64 ((iD ws).length:Int),.nilIface])))from by
  obtain⟨ht,hg⟩:=nS (i:=0) (j:=1) (og:=some g) (p:=p) (tx:=tx) (e:=e) hs ⟨rfl,rfl⟩ (by simp) (by simp)
  show Calls Tryz.prog 141 #[.pointer (some ⟨β 0,0,none⟩),ab (iD ws)] W _
  exact(I2 (iD ws) ht hl).mono fun en w' hp=>ri (i:=0) (j:=1) (m:=2) (p:=p) (tx:=tx) (e:=e) ⟨rfl,rfl⟩ (by omega) (by omega) hg hp)
 have z0:Lg g (tx++iD ws) e [] [cN (some g) [.cw true 0 0,.own 2,.val (.int .i64 e)],Sx.al,⟨5,.own 1 (tx++iD ws).length (iU (tx++iD ws))⟩]:=⟨2,rfl,rfl,rfl⟩
 refine BQ [.slice B m cc] h [(8,.call (ab (ao 32 ws))),(9,.bin (ab (iD ws))),(10,.an (xx [] 0 1 2 (some g) (tx++iD ws) e (.tuple #[.int .i64 ((iD ws).length:Int),.nilIface])))] [] (by kernel_rfl) Tryz.func70 rfl (Nat.le_of_ble_eq_true rfl) ?_
 exact Eq.mp (by kernel_rfl) (Sx.t2 c8 c9 (And.intro c10 z0))
set_option maxRecDepth 100000
open Go Go.RowKit Go.Lib Go.Sort
theorem GY(n:Int):Lib.itoa n=cE n:=by unfold Lib.itoa cE;rw[mo,mo]
theorem jY(n:Int)(h0 : -9223372036854775808≤n)(h1:n≤9223372036854775807)(w:World)(hl:dJ w):Calls Tryz.prog 71 #[.int .i64 n] w fun e w'=>e=.returned (ab (cE n))∧ag [] w w':=by
 refine(Tryz.strconv_Itoa n h0 h1 w hl.OX).mono ?_
 rintro e w' ⟨rfl,k,os,rfl⟩
 exact⟨by rw[GY];rfl,((ag.refl [] w).drewN k).trans (eO ⟨⟨(w.drewN k).drawn,os⟩,rfl⟩)⟩
theorem kn(n:Nat):cE (n:Int)=ak 10 n:=by unfold cE;rw[if_neg (by omega)];rfl
theorem fe(u:Nat)(h:u < 100000):(ak 10 u).length≤5:=by
 have step:∀u:Nat,¬u < 10→(ak 10 u).length=(ak 10 (u / 10)).length+1:=fun u h=>by rw[dy (by omega) h]; simp
 have one:∀u:Nat,u < 10→(ak 10 u).length=1:=fun u h=>by rw[bj h];rfl
 by_cases a:u < 10
 ·rw[one u a];omega
 rw[step u a]
 by_cases b:u / 10 < 10
 ·rw[one _ b];omega
 rw[step _ b]
 by_cases c:u / 10 / 10 < 10
 ·rw[one _ c];omega
 rw[step _ c]
 by_cases d:u / 10 / 10 / 10 < 10
 ·rw[one _ d];omega
 rw[step _ d,one _ (by omega)];omega
theorem Ar(s:Nat×Nat)(h1:s.1≤65535)(h2:s.2≤65535)(w:World)(hl:dJ w):Calls Tryz.prog 85 #[ie s] w fun e w'=>e=.returned (ab (cX s))∧ag [] w w':=by
 obtain⟨a,b⟩:=s
 have h1:a≤65535:=h1
 have h2:b≤65535:=h2
 have c6:Value.int .i64 (IntKind.i64.wrap (a:Int))=.int .i64 (a:Int):=iw (gE (by omega) (by omega))
 have c7:=fun W (hW:ag [] w W)=>(show Calls Tryz.prog 71 #[.int .i64 (a:Int)] W fun e w'=>e=.returned (ab (ak 10 a))∧ag [] W w' from by rw[←kn];exact jY (a:Int) (by omega) (by omega) W (hl.cS hW))
 have la:=fe a (by omega)
 have lb:=fe b (by omega)
 by_cases he:a=b
 ·have c12:Value.bool ((a:Int) !=(b:Int))=.bool false:=gZ (by rw[he];simp)
  have hr:cX (a,b)=ak 10 a:=by unfold cX;rw[if_pos he]
  rw[hr]
  have z0:Value.string ⟨(ak 10 a).toArray⟩=ab (ak 10 a):=rfl
  refine Sx.aG (args:=[ie (a,b)]) [(6,.is (.int .i64 (a:Int))),(7,.call (ab (ak 10 a))),(12,.is (.bool false))] [] (by kernel_rfl) Tryz.func85 rfl (Nat.le_of_ble_eq_true rfl) ?_
  exact Eq.mp (by kernel_rfl) (Sx.t2 c6 c7 (And.intro c12 z0))
 ·have c12:Value.bool ((a:Int) !=(b:Int))=.bool true:=gv (by rw[bne_iff_ne];omega)
  have hr:cX (a,b)=ak 10 a++([45]++ak 10 b):=by unfold cX;rw[if_neg he];rfl
  rw[hr]
  have gB:Value.int .i64 (IntKind.i64.wrap (b:Int))=.int .i64 (b:Int):=iw (gE (by omega) (by omega))
  have c17:=fun W (hW:ag [] w W)=>(show Calls Tryz.prog 71 #[.int .i64 (b:Int)] W fun e w'=>e=.returned (ab (ak 10 b))∧ag [] W w' from by rw[←kn];exact jY (b:Int) (by omega) (by omega) W (hl.cS hW))
  have c18:=fun W=>bN (.const (.string ⟨#[45]⟩)) (.tmp 17) [45] (ak 10 b) (by show 1+(ak 10 b).length≤_;omega) W
  have c19:=fun W=>bN (.tmp 13) (.tmp 18) (ak 10 a) ([45]++ak 10 b) (by simp only[List.length_append,List.length_cons,List.length_nil];omega) W
  have z0:Value.string ⟨(ak 10 a++([45]++ak 10 b)).toArray⟩=ab (ak 10 a++([45]++ak 10 b)):=rfl
  refine Sx.aG (args:=[ie (a,b)]) [(6,.is (.int .i64 (a:Int))),(7,.call (ab (ak 10 a))),(12,.is (.bool true)),(16,.is (.int .i64 (b:Int))),(17,.call (ab (ak 10 b))),(18,.bin (ab ([45]++ak 10 b))),(19,.bin (ab (ak 10 a++([45]++ak 10 b))))] [] (by kernel_rfl) Tryz.func85 rfl (Nat.le_of_ble_eq_true rfl) ?_
  exact Eq.mp (by kernel_rfl) (Sx.t4 c6 c7 c12 gB (Sx.t2 c17 c18 (And.intro c19 z0)))
theorem JO(n:Nat)(h:n≤255)(w:World)(hl:dJ w):Calls Tryz.prog 86 #[.int .u8 (n:Int)] w fun e w'=>e=.returned (ab (cQ n))∧ag [] w w':=by
 by_cases h6:n=6
 ·have hr:cQ n=oo:=by unfold cQ;rw[if_pos h6]
  rw[hr]
  have c5:Value.bool ((n:Int)==6)=.bool true:=gv (by rw[h6];rfl)
  have z0:Value.string ⟨#[116,99,112]⟩=ab oo:=rfl
  refine Sx.aG (args:=[.int .u8 (n:Int)]) [(5,.is (.bool true))] [] (by kernel_rfl) Tryz.func86 rfl (Nat.le_of_ble_eq_true rfl) ?_
  exact Eq.mp (by kernel_rfl) (And.intro c5 z0)
 ·have c5:Value.bool ((n:Int)==6)=.bool false:=gZ (by rw[beq_eq_false_iff_ne];omega)
  by_cases h17:n=17
  ·have hr:cQ n=ph:=by unfold cQ;rw[if_neg h6,if_pos h17]
   rw[hr]
   have c7:Value.bool ((n:Int)==17)=.bool true:=gv (by rw[h17];rfl)
   have z0:Value.string ⟨#[117,100,112]⟩=ab ph:=rfl
   refine Sx.aG (args:=[.int .u8 (n:Int)]) [(5,.is (.bool false)),(7,.is (.bool true))] [] (by kernel_rfl) Tryz.func86 rfl (Nat.le_of_ble_eq_true rfl) ?_
   exact Eq.mp (by kernel_rfl) (Sx.t2 c5 c7 z0)
  ·have hr:cQ n=ak 10 n:=by unfold cQ;rw[if_neg h6,if_neg h17]
   rw[hr]
   have c7:Value.bool ((n:Int)==17)=.bool false:=gZ (by rw[beq_eq_false_iff_ne];omega)
   have c9:Value.int .i64 (IntKind.i64.wrap (n:Int))=.int .i64 (n:Int):=iw (gE (by omega) (by omega))
   have c10:=fun W (hW:ag [] w W)=>(show Calls Tryz.prog 71 #[.int .i64 (n:Int)] W fun e w'=>e=.returned (ab (ak 10 n))∧ag [] W w' from by rw[←kn];exact jY (n:Int) (by omega) (by omega) W (hl.cS hW))
   have z0:ab (ak 10 n)=ab (ak 10 n):=rfl
   refine Sx.aG (args:=[.int .u8 (n:Int)]) [(5,.is (.bool false)),(7,.is (.bool false)),(9,.is (.int .i64 (n:Int))),(10,.call (ab (ak 10 n)))] [] (by kernel_rfl) Tryz.func86 rfl (Nat.le_of_ble_eq_true rfl) ?_
   exact Eq.mp (by kernel_rfl) (Sx.t4 c5 c7 c9 c10 z0)
open Go Go.RowKit Go.Lib Go.Sort
def oH(w:World)(S:List Nat)(size:Nat)(s:Value)(n:Nat)(xs:List Value):Prop:=
 xs.length=n*size∧∃A c,s=.slice A n c∧(0 < n→∃g o,A=some ⟨g,o,none⟩∧g∉S∧g < w.heap.size∧∀(j:Nat) (u:Value),xs[j]?=some u→w.cell? ⟨g,o+j,none⟩=some u)
theorem oH.l9{w:World}{S:List Nat}{T size n:Nat}{s:Value}{xs:List Value}(h:Own w T size s n xs)(hS:∀k,s.ownBlock=some k→k∉S):oH w S size s n xs:=by
 refine⟨h.len,?_⟩
 obtain⟨A,c,rfl,_,_⟩:=h.form
 refine⟨A,c,rfl,fun h0=>?_⟩
 obtain⟨g,o,c',hv,_,_,hg⟩:=h.some_ h0
 injection hv with h1 _ _
 subst h1
 exact⟨g,o,rfl,hS g rfl,hg,fun j u hu=>(Own.cell h hu).1⟩
theorem oH.aF{w w':World}{S:List Nat}{size n:Nat}{s:Value}{xs:List Value}(h:oH w S size s n xs)(hc:ag S w w'):oH w' S size s n xs:=by
 obtain⟨h1,A,c,h2,h3⟩:=h
 refine⟨h1,A,c,h2,fun h0=>?_⟩
 obtain⟨g,o,ha,hg,hl,hr⟩:=h3 h0
 exact⟨g,o,ha,hg,Nat.lt_of_lt_of_le hl hc.size,fun j u hu=>(hc.cell (p:=⟨g,o+j,none⟩) hl hg).trans (hr j u hu)⟩
theorem oH.sub{w:World}{S S':List Nat}{size n:Nat}{s:Value}{xs:List Value}(h:oH w S size s n xs)(hs:∀k∈S',k∈S∨w.heap.size≤k):oH w S' size s n xs:=by
 obtain⟨h1,A,c,h2,h3⟩:=h
 refine⟨h1,A,c,h2,fun h0=>?_⟩
 obtain⟨g,o,ha,hg,hl,hr⟩:=h3 h0
 exact⟨g,o,ha,fun hm=>by
  rcases hs g hm with h|h
  ·exact hg h
  ·omega,hl,hr⟩
theorem oH.form{w:World}{S:List Nat}{size n:Nat}{s:Value}{xs:List Value}(h:oH w S size s n xs):∃A c,s=.slice A n c:=let ⟨_,A,c,h,_⟩:=h;⟨A,c,h⟩
section
variable{P:Program}{w:World}{S:List Nat}{size n:Nat}{s:Value}
theorem oQ{t e:TypeId}{inf:TypeInfo}(hu:P.underlying t=some (.slice e))(hi:P.info? e=some inf)(g o n c i:Nat)(h:i < n)(W:World) :
  (Instr.indexAt t (.slice (some ⟨g,o,none⟩) n c) (.int .i64 (i:Int))).run P W=.ok (.pointer (some ⟨g,o+i*inf.size,none⟩)) W:=by
 have hb:(0:Int)≤(i:Int)∧(i:Int) < (n:Int):=by omega
 simp[Instr.indexAt,run_underlying hu,asIntOf,h,sizeOf,typeInfo,hi,Addr.add_lit]
theorem oH.EG{t e:TypeId}{inf:TypeInfo}{d:TypeDesc}{α:Type}{f:α→List Value}(hf:∀x,(f x).length=size){L:List α}(h:oH w S size s n (L.flatMap f))(hu:P.underlying t=some (.slice e))(hi:P.info? e=some inf)(hs:inf.size=size)(hd:P.underlying e=some d)(hr:d.isRow=true)(h0:0 < size){i:Nat}{x:α}(hx:L[i]?=some x) :
  ∃p,(∀W,ag S w W→(Instr.indexAt t s (.int .i64 (i:Int))).run P W=.ok p W)∧∀W,ag S w W→(Instr.loadAt e p).run P W=.ok (.agg (f x).toArray) W:=by
 obtain⟨hl,A,c,rfl,h3⟩:=h
 have hfl:∀l:List α,(l.flatMap f).length=l.length*size:=fun l=>by
  induction l with
  |nil=>simp
  |cons y r ih=>rw[List.flatMap_cons,List.length_append,hf,ih,List.length_cons,Nat.add_mul];omega
 have hn:L.length=n:=by
  rw[hfl]at hl
  exact Nat.eq_of_mul_eq_mul_right h0 hl
 have hin:i < n:=by rw[←hn];exact(List.getElem?_eq_some_iff.1 hx).1
 obtain⟨g,o,rfl,hg,hlt,hr2⟩:=h3 (by omega)
 refine⟨.pointer (some ⟨g,o+i*inf.size,none⟩),fun W _=>oQ hu hi g o n c i hin W,fun W hW=>?_⟩
 have flat:∀{l:List α} {i c:Nat} {x:α},l[i]?=some x→c < size→(l.flatMap f)[i*size+c]?=(f x)[c]?:=by
  intro l
  induction l with
  |nil=>intro i c x h _;simp at h
  |cons y r ih=>
   intro i c x h hc
   cases i with
   |zero=>
    have h:y=x:=by simpa using h
    subst h
    rw[List.flatMap_cons,List.getElem?_append_left (by rw[hf];omega)]
    simp
   |succ i=>
    have e:(i+1)*size+c - size=i*size+c:=by rw[Nat.add_mul]; omega
    rw[List.flatMap_cons,List.getElem?_append_right (by rw[hf,Nat.add_mul];omega),hf,e]
    exact ih (by simpa using h) hc
 refine run_loadAt_mid (P:=P) W g (o+i*inf.size) e (f x) d (fun j u hu=>?_) hd hr (by rw[hi];simp[hs,hf])
 have hj:j < size:=by rw[←hf x];exact(List.getElem?_eq_some_iff.1 hu).1
 have:=hr2 (i*size+j) u (by rw[flat hx hj];exact hu)
 rw[hs,Nat.add_assoc]
 exact(hW.cell (p:=⟨g,o+(i*size+j),none⟩) hlt hg).trans this
theorem oH.Nv{t e:TypeId}{inf:TypeInfo}{d:TypeDesc}{α:Type}{f:α→Value}{L:List α}(h:oH w S 1 s n (L.map f))(hu:P.underlying t=some (.slice e))(hi:P.info? e=some inf)(hs:inf.size=1)(hd:P.underlying e=some d)(hr:d.isRow=false){i:Nat}{x:α}(hx:L[i]?=some x) :
  ∃p,(∀W,ag S w W→(Instr.indexAt t s (.int .i64 (i:Int))).run P W=.ok p W)∧∀W,ag S w W→(Instr.loadAt e p).run P W=.ok (f x) W:=by
 obtain⟨hl,A,c,rfl,h3⟩:=h
 have hn:L.length=n:=by simpa using hl
 have hin:i < n:=by rw[←hn];exact(List.getElem?_eq_some_iff.1 hx).1
 obtain⟨g,o,rfl,hg,hlt,hr2⟩:=h3 (by omega)
 refine⟨.pointer (some ⟨g,o+i*inf.size,none⟩),fun W _=>oQ hu hi g o n c i hin W,fun W hW=>?_⟩
 have:=hr2 i (f x) (by rw[List.getElem?_map,hx];rfl)
 have hc:=(hW.cell (p:=⟨g,o+i,none⟩) hlt hg).trans this
 rw[hs,Nat.mul_one]
 have hagg:(isAgg e).run P W=.ok false W:=by
  unfold isAgg
  rw[Sem.run_bind,run_underlying hd W]
  cases d<;>simp_all
 rw[Sx.oP]
 simp[loadVar,Sem.run_bind,hagg,load,Sem.run,hc]
end
end Go.Proofs.YtnncigmpcdehnaaGreatDoor
