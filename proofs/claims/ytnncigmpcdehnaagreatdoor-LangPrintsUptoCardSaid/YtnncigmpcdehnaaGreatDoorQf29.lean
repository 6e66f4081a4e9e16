import Derived.Test.YtnncigmpcdehnaaGreatDoorQf28
namespace Go.Proofs.YtnncigmpcdehnaaGreatDoor
set_option maxRecDepth 100000
open Go Go.RowKit Go.Lib Go.Sort _root_.Go.Proofs.Tryz
theorem AX{w:World}{A:Option Go.Addr}{n c:Nat}{xs:List (List UInt8)}(h:Own w 9 1 (.slice A n c) n (strs xs))(sep:UInt8)(hN:n≤140737488355328)(hlen:(ao sep xs).length≤140737488355328) :
  Calls prog 87 #[.slice A n c,.string ⟨#[sep]⟩] w (Rn w (ab (ao sep xs))):=by
 have hl:xs.length=n:=by have:=h.len;simpa[strs]using this
 by_cases h0:n=0
 ·subst h0
  have:xs=[]:=List.eq_nil_of_length_eq_zero hl
  subst this
  exact(Tryz.strings_Join_none A c ⟨#[sep]⟩ w).mono fun e w' ⟨h1,h2⟩=>⟨h1,by rw[h2];exact ai.refl _ _⟩
 ·obtain⟨g,o,c',hv,hnc,_,hg⟩:=h.some_ (by omega)
  injection hv with hA _ hc
  subst hA hc
  have hj:=Tryz.strings_Join g o c (xs.map fun l=>(⟨l.toArray⟩:ByteArray)) ⟨#[sep]⟩ w (fun j x hx=>by
   have:=h.jX j _ (Ed hx)
   rwa [Lib.add_plain]at this) hg (by simpa[hl]using hN) (by simpa[hl]using hnc) (by rw[qG,show(⟨#[sep]⟩:ByteArray).data.toList=[sep]from rfl,nD];exact hlen)
  rw[qG,show(⟨#[sep]⟩:ByteArray).data.toList=[sep]from rfl,nD,List.length_map,hl]at hj
  exact hj.mono fun e w' ⟨h1,h2⟩=>⟨h1,ai.dO h2⟩
def Ea(g:Nat)(p:Bool)(tx:Bs)(e:Int):List Sx.Row:=[ji (some g) [.eG p 0 0,.own 1,.val (.int .i64 e)],⟨5,.own 1 tx.length (qT tx)⟩]
def OA(g:Nat)(tx:Bs)(e:Int)(l:List Sx.SV)(mem:List Sx.Row):Prop:=
 ∃k,l=[]∧mem[0]?=some (ji (some g) [.eG true 0 0,.own k,.val (.int .i64 e)])∧mem[k]?=some ⟨5,.own 1 tx.length (qT tx)⟩
theorem mr.jh{g:Nat}{A:Option Go.Addr}{tx:Bs}{e:Int}{w:World}{en:Ending}{w':World}(h:Sx.cq ⟨w,pP g A,fun _ _=>False⟩ (OA g tx e) en w'):mr g A (.tuple #[]) tx e w en w':=by
 rcases h with⟨β,l,mem,⟨k,rfl,h0,hk⟩,he,hR⟩ | ⟨_,_,hf,_⟩
 ·have r0:=lO.1 (hR.held 0 _ h0)
  have rk:β.n k=tx.length∧Own w' 5 1 (.slice (β.a k) tx.length (β.c k)) tx.length (qT tx):=hR.held k _ hk
  have hg:β 0=g:=r0.1 g rfl
  have hb:=r0.2
  have e1:([Sx.SV.eG true 0 0,.own k,.val (.int .i64 e)].map (Sx.SV.den β))=[pV true (β 0),β.sl k,.int .i64 e]:=rfl
  rw[e1,hg]at hb
  unfold Sx.Env.sl at hb
  rw[rk.1]at hb
  refine⟨β.a k,β.c k,he,⟨hb,rk.2⟩,hR.aG,fun x hx=>?_⟩
  rcases hR.new k _ x hk hx with h1|h1
  ·rcases List.mem_cons.1 h1 with rfl|h1
   ·exact absurd (by rw[FO];exact hx) (rk.2.EK hb (show(5:Nat)≠132 by decide))
   ·exact .inl (by simpa using h1)
  ·exact .inr h1
 ·exact hf.elim
theorem D9{w:World}{f:FuncId}{fn:Func}{co:Code}{g:Nat}{p:Bool}{A:Option Go.Addr}{c:Nat}{tx tx':Bs}{e e':Int}(rest:List Value)(h:Tx w g p A c tx e)(H:List (Nat×Sx.Hint))(L:List Sx.Loop)
  (hm:prog.follows .mixedOrders=true) (hf:prog.funcs[f]?=some fn) (hb:fn.body=some co) (hn:(rest.length+1)≤fn.ntmps)
  (hx:Sx.jU prog fn.ntmps ⟨w,pP g A,fun _ _=>False⟩ co H L ⟨Sx.mz 0 (.ptr 0 0::rest.map .val),Ea g p tx e⟩ (Sx.bY prog fn (OA g tx' e'))) :
  Calls prog f (.pointer (some ⟨g,0,none⟩)::rest).toArray w (mr g A (.tuple #[]) tx' e' w):=by
 have hrows:Sx.Rows ⟨w,pP g A,fun _ _=>False⟩ (Sx.cU [.nM g 132 [.eG p 0 0,.own 1,.val (.int .i64 e)],.own 5 1 A tx.length c (qT tx)]) w (Ea g p tx e):=by
  refine Sx.gP (w:=w) (S:=pP g A) (PP:=fun _ _=>False) (G:=[.nM g 132 [.eG p 0 0,.own 1,.val (.int .i64 e)],.own 5 1 A tx.length c (qT tx)]) (fun q hq=>?_) (fun q hq k hk=>?_) ?_
  ·rcases List.mem_cons.1 hq with rfl|hq
   ·exact h.b9
   ·rw[List.mem_singleton.1 hq];exact h.own
  ·rcases List.mem_cons.1 hq with rfl|hq
   ·cases hk;simp[pP]
   ·rw[List.mem_singleton.1 hq]at hk
    have hk:A.map (·.block)=some k:=hk
    unfold pP;rw[hk];simp
  ·have:([Sx.kF.nM g 132 [.eG p 0 0,.own 1,.val (.int .i64 e)],.own 5 1 A tx.length c (qT tx)].filterMap Sx.kF.block)=[g]++(A.map (·.block)).toList:=by
    cases A<;>rfl
   rw[this,List.singleton_append,List.nodup_cons]
   refine⟨fun hm=>h.ne ?_,?_⟩
   ·rw[FO];simpa using hm
   ·cases A<;>simp
 have:=Sx.aZ (args:=.ptr 0 0::rest.map .val) hrows H L hm hf hb (by simpa using hn) (by
  have:∀l:List Value,Sx.fj (Sx.zJ 2) (l.map .val)=true:=fun l=>by
   induction l with
   |nil=>rfl
   |cons x l ih=>exact ih
  exact this rest) hx
 have ea:((.ptr 0 0::rest.map .val:List Sx.SV).map (Sx.SV.den (Sx.cU [.nM g 132 [.eG p 0 0,.own 1,.val (.int .i64 e)],.own 5 1 A tx.length c (qT tx)])))=.pointer (some ⟨g,0,none⟩)::rest:=by
  rw[List.map_cons,List.map_map]
  have:(Sx.SV.den (Sx.cU [.nM g 132 [.eG p 0 0,.own 1,.val (.int .i64 e)],.own 5 1 A tx.length c (qT tx)]) ∘ Sx.SV.val)=id:=rfl
  rw[this,List.map_id]
  rfl
 rw[ea]at this
 exact this.mono fun en w' hp=>mr.jh hp
theorem ES{w:World}{g:Nat}{p:Bool}{A B:Option Go.Addr}{c m cc:Nat}{tx:Bs}{e:Int}(ws:List Bs)(h:Tx w g p A c tx e)(hw:Own w 9 1 (.slice B m cc) m (strs ws))(hm:m≤1000000000)(hl:tx.length+(eW ws).length≤140737488355328) :
  Calls prog 70 #[.pointer (some ⟨g,0,none⟩),.slice B m cc] w (mr g A (.tuple #[]) (tx++eW ws) e w):=by
 have hS:∀k,(Value.slice B m cc).ownBlock=some k→k∉pP g A:=fun k hk hm=>by
  rcases List.mem_cons.1 hm with rfl|hm
  ·exact hw.EK h.b9 (by decide) hk
  ·exact hw.Jq h.own (by decide) k hk (by rw[FO];simpa using hm)
 have hll:(eW ws).length=(ao 32 ws).length+1:=by simp[eW]
 have c8:=fun W (hW:ai (pP g A) w W)=>AX (hw.aG hW hS) 32 (by omega) (by omega)
 have c9:=fun W=>bq (.tmp 8) (.const (.string ⟨#[10]⟩)) (ao 32 ws) [10] (by show(ao 32 ws).length+1≤_;omega) W
 have c10:=fun W (β:Sx.Env) (hs:Sx.eF ⟨w,pP g A,fun _ _=>False⟩ β W (Sx.rowAt (Ea g p tx e)) [0,1])=>(show Calls prog 141 (([.ptr 0 0,.val (ab (eW ws))]:List Sx.SV).map (Sx.SV.den β)).toArray W (Sx.aY ⟨w,pP g A,fun _ _=>False⟩ β W (Sx.rowAt (Ea g p tx e)) 2 (zx [] 0 1 2 (some g) (tx++eW ws) e (.tuple #[.int .i64 ((eW ws).length:Int),.nilIface])))from by
  obtain⟨ht,hg⟩:=oV (i:=0) (j:=1) (og:=some g) (p:=p) (tx:=tx) (e:=e) hs ⟨rfl,rfl⟩ (by simp) (by simp)
  show Calls prog 141 #[.pointer (some ⟨β 0,0,none⟩),ab (eW ws)] W _
  exact(LM (eW ws) ht hl).mono fun en w' hp=>sX (i:=0) (j:=1) (m:=2) (p:=p) (tx:=tx) (e:=e) ⟨rfl,rfl⟩ (by omega) (by omega) hg hp)
 have z0:OA g (tx++eW ws) e [] [ji (some g) [.eG true 0 0,.own 2,.val (.int .i64 e)],Sx.an,⟨5,.own 1 (tx++eW ws).length (qT (tx++eW ws))⟩]:=⟨2,rfl,rfl,rfl⟩
 refine D9 [.slice B m cc] h [(8,.call (ab (ao 32 ws))),(9,.bin (ab (eW ws))),(10,.aq (zx [] 0 1 2 (some g) (tx++eW ws) e (.tuple #[.int .i64 ((eW ws).length:Int),.nilIface])))] [] (by kernel_rfl) func70 rfl (cn rfl) ?_
 exact Eq.mp (by kernel_rfl) (Sx.t2 c8 c9 (And.intro c10 z0))
set_option maxRecDepth 100000
open Go Go.RowKit Go.Lib Go.Sort _root_.Go.Proofs.Tryz
set_option maxRecDepth 100000
theorem JV(n:Int):Lib.itoa n=cz n:=by unfold Lib.itoa cz;rw[nH,nH]
theorem kS(n:Int)(h0 : -9223372036854775808≤n)(h1:n≤9223372036854775807)(w:World)(hl:eb w):Calls prog 71 #[.int .i64 n] w (Rn w (ab (cz n))):=by
 refine(Tryz.strconv_Itoa n h0 h1 w hl.SH).mono ?_
 rintro e w' ⟨rfl,k,os,rfl⟩
 exact⟨by rw[JV];rfl,((ai.refl [] w).drewN k).trans (fw ⟨⟨(w.drewN k).drawn,os⟩,rfl⟩)⟩
theorem lu(n:Nat):cz (n:Int)=aj 10 n:=by unfold cz;rw[if_neg (by omega)];rfl
theorem fN(u:Nat)(h:u < 100000):(aj 10 u).length≤5:=by
 have step:∀u:Nat,¬u < 10→(aj 10 u).length=(aj 10 (u / 10)).length+1:=fun u h=>by rw[dE (by omega) h]; simp
 have one:∀u:Nat,u < 10→(aj 10 u).length=1:=fun u h=>by rw[aW h];rfl
 by_cases a:u < 10
 ·rw[one u a];omega
 rw[step u a]
 by_cases b:u / 10 < 10
 ·rw[one _ b];omega
 rw[step _ b]
 by_cases c:u / 10 / 10 < 10
 ·rw[one _ c];omega
 rw[step _ c]
 by_cases d:u / 10 / 10 / 10 < 10
 ·rw[one _ d];omega
 rw[step _ d,one _ (by omega)];omega
theorem Cy(s:Nat×Nat)(h1:s.1≤65535)(h2:s.2≤65535)(w:World)(hl:eb w):Calls prog 85 #[iV s] w (Rn w (ab (dt s))):=by
 obtain⟨a,b⟩:=s
 have h1:a≤65535:=h1
 have h2:b≤65535:=h2
 have c6:Value.int .i64 (IntKind.i64.wrap (a:Int))=.int .i64 (a:Int):=iw (sV (by omega) (by omega))
 have c7:=fun W (hW:ai [] w W)=>(show Calls prog 71 #[.int .i64 (a:Int)] W (Rn W (ab (aj 10 a)))from by rw[←lu];exact kS (a:Int) (by omega) (by omega) W (hl.df hW))
 have la:=fN a (by omega)
 have lb:=fN b (by omega)
 by_cases he:a=b
 ·have c12:Value.bool ((a:Int) !=(b:Int))=.bool false:=ib (by rw[he];simp)
  have hr:dt (a,b)=aj 10 a:=by unfold dt;rw[if_pos he]
  rw[hr]
  have z0:Value.string ⟨(aj 10 a).toArray⟩=ab (aj 10 a):=rfl
  refine Sx.aF (args:=[iV (a,b)]) [(6,.is (.int .i64 (a:Int))),(7,.call (ab (aj 10 a))),(12,.is (.bool false))] [] (by kernel_rfl) func85 rfl (cn rfl) ?_
  exact Eq.mp (by kernel_rfl) (Sx.t2 c6 c7 (And.intro c12 z0))
 ·have c12:Value.bool ((a:Int) !=(b:Int))=.bool true:=j4 (by rw[bne_iff_ne];omega)
  have hr:dt (a,b)=aj 10 a++([45]++aj 10 b):=by unfold dt;rw[if_neg he];rfl
  rw[hr]
  have ir:Value.int .i64 (IntKind.i64.wrap (b:Int))=.int .i64 (b:Int):=iw (sV (by omega) (by omega))
  have c17:=fun W (hW:ai [] w W)=>(show Calls prog 71 #[.int .i64 (b:Int)] W (Rn W (ab (aj 10 b)))from by rw[←lu];exact kS (b:Int) (by omega) (by omega) W (hl.df hW))
  have c18:=fun W=>bq (.const (.string ⟨#[45]⟩)) (.tmp 17) [45] (aj 10 b) (by show 1+(aj 10 b).length≤_;omega) W
  have c19:=fun W=>bq (.tmp 13) (.tmp 18) (aj 10 a) ([45]++aj 10 b) (by simp only[List.length_append,List.length_cons,List.length_nil];omega) W
  have z0:Value.string ⟨(aj 10 a++([45]++aj 10 b)).toArray⟩=ab (aj 10 a++([45]++aj 10 b)):=rfl
  refine Sx.aF (args:=[iV (a,b)]) [(6,.is (.int .i64 (a:Int))),(7,.call (ab (aj 10 a))),(12,.is (.bool true)),(16,.is (.int .i64 (b:Int))),(17,.call (ab (aj 10 b))),(18,.bin (ab ([45]++aj 10 b))),(19,.bin (ab (aj 10 a++([45]++aj 10 b))))] [] (by kernel_rfl) func85 rfl (cn rfl) ?_
  exact Eq.mp (by kernel_rfl) (Sx.t4 c6 c7 c12 ir (Sx.t2 c17 c18 (And.intro c19 z0)))
theorem MX(n:Nat)(h:n≤255)(w:World)(hl:eb w):Calls prog 86 #[.int .u8 (n:Int)] w (Rn w (ab (dc n))):=by
 by_cases h6:n=6
 ·have hr:dc n=pj:=by unfold dc;rw[if_pos h6]
  rw[hr]
  have c5:Value.bool ((n:Int)==6)=.bool true:=j4 (by rw[h6];rfl)
  have z0:Value.string ⟨#[116,99,112]⟩=ab pj:=rfl
  refine Sx.aF (args:=[.int .u8 (n:Int)]) [(5,.is (.bool true))] [] (by kernel_rfl) func86 rfl (cn rfl) ?_
  exact Eq.mp (by kernel_rfl) (And.intro c5 z0)
 ·have c5:Value.bool ((n:Int)==6)=.bool false:=ib (by rw[beq_eq_false_iff_ne];omega)
  by_cases h17:n=17
  ·have hr:dc n=qu:=by unfold dc;rw[if_neg h6,if_pos h17]
   rw[hr]
   have c7:Value.bool ((n:Int)==17)=.bool true:=j4 (by rw[h17];rfl)
   have z0:Value.string ⟨#[117,100,112]⟩=ab qu:=rfl
   refine Sx.aF (args:=[.int .u8 (n:Int)]) [(5,.is (.bool false)),(7,.is (.bool true))] [] (by kernel_rfl) func86 rfl (cn rfl) ?_
   exact Eq.mp (by kernel_rfl) (Sx.t2 c5 c7 z0)
  ·have hr:dc n=aj 10 n:=by unfold dc;rw[if_neg h6,if_neg h17]
   rw[hr]
   have c7:Value.bool ((n:Int)==17)=.bool false:=ib (by rw[beq_eq_false_iff_ne];omega)
   have c9:Value.int .i64 (IntKind.i64.wrap (n:Int))=.int .i64 (n:Int):=iw (sV (by omega) (by omega))
   have c10:=fun W (hW:ai [] w W)=>(show Calls prog 71 #[.int .i64 (n:Int)] W (Rn W (ab (aj 10 n)))from by rw[←lu];exact kS (n:Int) (by omega) (by omega) W (hl.df hW))
   have z0:ab (aj 10 n)=ab (aj 10 n):=rfl
   refine Sx.aF (args:=[.int .u8 (n:Int)]) [(5,.is (.bool false)),(7,.is (.bool false)),(9,.is (.int .i64 (n:Int))),(10,.call (ab (aj 10 n)))] [] (by kernel_rfl) func86 rfl (cn rfl) ?_
   exact Eq.mp (by kernel_rfl) (Sx.t4 c5 c7 c9 c10 z0)
open Go Go.RowKit Go.Lib Go.Sort
def kV(w:World)(S:List Nat)(size:Nat)(s:Value)(n:Nat)(xs:List Value):Prop:=
 xs.length=n*size∧∃A c,s=.slice A n c∧(0 < n→∃g o,A=some ⟨g,o,none⟩∧g∉S∧g < w.heap.size∧∀(j:Nat) (u:Value),xs[j]?=some u→w.cell? ⟨g,o+j,none⟩=some u)
theorem kV.eM{w:World}{S:List Nat}{T size n:Nat}{s:Value}{xs:List Value}(h:Own w T size s n xs)(hS:∀k,s.ownBlock=some k→k∉S):kV w S size s n xs:=by
 refine⟨h.len,?_⟩
 obtain⟨A,c,rfl,_,_⟩:=h.form
 refine⟨A,c,rfl,fun h0=>?_⟩
 obtain⟨g,o,c',hv,_,_,hg⟩:=h.some_ h0
 injection hv with h1 _ _
 subst h1
 exact⟨g,o,rfl,hS g rfl,hg,fun j u hu=>(Own.cell h hu).1⟩
theorem kV.aG{w w':World}{S:List Nat}{size n:Nat}{s:Value}{xs:List Value}(h:kV w S size s n xs)(hc:ai S w w'):kV w' S size s n xs:=by
 obtain⟨h1,A,c,h2,h3⟩:=h
 refine⟨h1,A,c,h2,fun h0=>?_⟩
 obtain⟨g,o,ha,hg,hl,hr⟩:=h3 h0
 exact⟨g,o,ha,hg,Nat.lt_of_lt_of_le hl hc.size,fun j u hu=>(hc.cell (p:=⟨g,o+j,none⟩) hl hg).trans (hr j u hu)⟩
theorem kV.sub{w:World}{S S':List Nat}{size n:Nat}{s:Value}{xs:List Value}(h:kV w S size s n xs)(hs:∀k∈S',k∈S∨w.heap.size≤k):kV w S' size s n xs:=by
 obtain⟨h1,A,c,h2,h3⟩:=h
 refine⟨h1,A,c,h2,fun h0=>?_⟩
 obtain⟨g,o,ha,hg,hl,hr⟩:=h3 h0
 exact⟨g,o,ha,fun hm=>by
  rcases hs g hm with h|h
  ·exact hg h
  ·omega,hl,hr⟩
theorem kV.form{w:World}{S:List Nat}{size n:Nat}{s:Value}{xs:List Value}(h:kV w S size s n xs):∃A c,s=.slice A n c:=let ⟨_,A,c,h,_⟩:=h;⟨A,c,h⟩
section
variable{P:Program}{w:World}{S:List Nat}{size n:Nat}{s:Value}
theorem jn{t e:TypeId}{inf:TypeInfo}(hu:P.underlying t=some (.slice e))(hi:P.info? e=some inf)(g o n c i:Nat)(h:i < n)(W:World) :
  (Instr.indexAt t (.slice (some ⟨g,o,none⟩) n c) (.int .i64 (i:Int))).run P W=.ok (.pointer (some ⟨g,o+i*inf.size,none⟩)) W:=by
 have hb:(0:Int)≤(i:Int)∧(i:Int) < (n:Int):=by omega
 simp[Instr.indexAt,run_underlying hu,asIntOf,h,sizeOf,typeInfo,hi,Addr.add_lit]
theorem kV.FA{t e:TypeId}{inf:TypeInfo}{d:TypeDesc}{α:Type}{f:α→List Value}(hf:∀x,(f x).length=size){L:List α}(h:kV w S size s n (L.flatMap f))(hu:P.underlying t=some (.slice e))(hi:P.info? e=some inf)(hs:inf.size=size)(hd:P.underlying e=some d)(hr:d.isRow=true)(h0:0 < size){i:Nat}{x:α}(hx:L[i]?=some x) :
  ∃p,(∀W,ai S w W→(Instr.indexAt t s (.int .i64 (i:Int))).run P W=.ok p W)∧∀W,ai S w W→(Instr.loadAt e p).run P W=.ok (.agg (f x).toArray) W:=by
 obtain⟨hl,A,c,rfl,h3⟩:=h
 have hfl:∀l:List α,(l.flatMap f).length=l.length*size:=fun l=>by
  induction l with
  |nil=>simp
  |cons y r ih=>rw[List.flatMap_cons,List.length_append,hf,ih,List.length_cons,Nat.add_mul];omega
 have hn:L.length=n:=by
  rw[hfl]at hl
  exact Nat.eq_of_mul_eq_mul_right h0 hl
 have hin:i < n:=by rw[←hn];exact(List.getElem?_eq_some_iff.1 hx).1
 obtain⟨g,o,rfl,hg,hlt,hr2⟩:=h3 (by omega)
 refine⟨.pointer (some ⟨g,o+i*inf.size,none⟩),fun W _=>jn hu hi g o n c i hin W,fun W hW=>?_⟩
 have flat:∀{l:List α} {i c:Nat} {x:α},l[i]?=some x→c < size→(l.flatMap f)[i*size+c]?=(f x)[c]?:=by
  intro l
  induction l with
  |nil=>intro i c x h _;simp at h
  |cons y r ih=>
   intro i c x h hc
   cases i with
   |zero=>
    have h:y=x:=by simpa using h
    subst h
    rw[List.flatMap_cons,List.getElem?_append_left (by rw[hf];omega)]
    simp
   |succ i=>
    have e:(i+1)*size+c - size=i*size+c:=by rw[Nat.add_mul]; omega
    rw[List.flatMap_cons,List.getElem?_append_right (by rw[hf,Nat.add_mul];omega),hf,e]
    exact ih (by simpa using h) hc
 refine run_loadAt_mid (P:=P) W g (o+i*inf.size) e (f x) d (fun j u hu=>?_) hd hr (by rw[hi];simp[hs,hf])
 have hj:j < size:=by rw[←hf x];exact(List.getElem?_eq_some_iff.1 hu).1
 have:=hr2 (i*size+j) u (by rw[flat hx hj];exact hu)
 rw[hs,Nat.add_assoc]
 exact(hW.cell (p:=⟨g,o+(i*size+j),none⟩) hlt hg).trans this
theorem kV.QG{t e:TypeId}{inf:TypeInfo}{d:TypeDesc}{α:Type}{f:α→Value}{L:List α}(h:kV w S 1 s n (L.map f))(hu:P.underlying t=some (.slice e))(hi:P.info? e=some inf)(hs:inf.size=1)(hd:P.underlying e=some d)(hr:d.isRow=false){i:Nat}{x:α}(hx:L[i]?=some x) :
  ∃p,(∀W,ai S w W→(Instr.indexAt t s (.int .i64 (i:Int))).run P W=.ok p W)∧∀W,ai S w W→(Instr.loadAt e p).run P W=.ok (f x) W:=by
 obtain⟨hl,A,c,rfl,h3⟩:=h
 have hn:L.length=n:=by simpa using hl
 have hin:i < n:=by rw[←hn];exact(List.getElem?_eq_some_iff.1 hx).1
 obtain⟨g,o,rfl,hg,hlt,hr2⟩:=h3 (by omega)
 refine⟨.pointer (some ⟨g,o+i*inf.size,none⟩),fun W _=>jn hu hi g o n c i hin W,fun W hW=>?_⟩
 have:=hr2 i (f x) (by rw[List.getElem?_map,hx];rfl)
 have hc:=(hW.cell (p:=⟨g,o+i,none⟩) hlt hg).trans this
 rw[hs,Nat.mul_one]
 have hagg:(isAgg e).run P W=.ok false W:=by
  unfold isAgg
  rw[Sem.run_bind,run_underlying hd W]
  cases d<;>simp_all
 rw[Sx.pW]
 simp[loadVar,Sem.run_bind,hagg,load,Sem.run,hc]
end
end Go.Proofs.YtnncigmpcdehnaaGreatDoor
