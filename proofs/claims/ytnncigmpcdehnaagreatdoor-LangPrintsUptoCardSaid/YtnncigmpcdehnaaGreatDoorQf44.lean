import Derived.Test.YtnncigmpcdehnaaGreatDoorQf43
namespace Go.Proofs.YtnncigmpcdehnaaGreatDoor
set_option maxRecDepth 100000
open Go.RowKit Go.Lib Go.Sort _root_.Go.Proofs.Tryz
set_option maxRecDepth 100000
def CY(l:List UInt8)(i:Nat):List (Nat×Sx.SV):=[(0,.val (.string ⟨l.toArray⟩)),(3,.val (.int .i64 (i:Int)))]
def Nj(l:List UInt8):List (Nat×Sx.SV):=[(0,.val (.string ⟨l.toArray⟩))]
def LD(l:List UInt8)(i:Nat):Prop:=i≤l.length∧∀j c,j < i→l[j]?=some c→wu j c=true
theorem yw{l:List UInt8}{i:Nat}{c:UInt8}(h:LD l i)(hg:l[i]?=some c)(hc:wu i c=true):LD l (i+1):=by
 have hlt:i < l.length:=(List.getElem?_eq_some_iff.1 hg).1
 refine⟨hlt,fun j c' hj hjc=>?_⟩
 by_cases he:j=i
 ·subst he
  rw[hg]at hjc
  injection hjc with hjc
  rw[←hjc];exact hc
 ·exact h.2 j c' (by omega) hjc
theorem II(l:List UInt8)(T:Value)(w:World)(hs:l.length≤16)(hb:1≤l.length)(hT:T=.bool (aB l))(i:Nat)(hi:LD l i):∃H' L',Sx.ex prog 54 w (Sx.aQ f34 0) H' L' ⟨CY l i,[]⟩
  (Sx.dR (LD l) (CY l) (fun _=>[]) (fun i=>i+1) (fun i=>l.length+2 - i) (fun(_:Unit)=>∀c j,l[j]?=some c→wu j c=true) (fun _=>Nj l) (fun _=>[]) (fun _=>()) (Sx.dM (Sx.aQ f34 0) - 1) (Sx.atEnd prog f34 (fun u=>u=T) .ret) i):=by
 have c17:=iq l
 have hi0:=hi.1
 by_cases h:i < l.length
 ·have c18:=bT ((i:Int) < (l.length:Int)) (by omega)
  obtain⟨c,hc⟩:∃c,l[i]?=some c:=⟨_,List.getElem?_eq_getElem h⟩
  have c23:=gK l i c hc
  have c20:=my (i:=i) (by omega)
  have h1:l.length+2 - (i+1) < l.length+2 - i:=by omega
  have h2:CY l (i+1)=CY l (i+1):=rfl
  have z3:([]:List Sx.Row)=[]:=rfl
  rcases(show(97≤c.toNat∧c.toNat≤122∧c.toNat≠95)∨(48≤c.toNat∧c.toNat≤57∧i=0)∨(c.toNat < 48∧c.toNat=45∧i=0)∨(c.toNat < 48∧c.toNat≠45∧i=0)∨(57 < c.toNat∧c.toNat < 97∧c.toNat=95∧i=0)∨(57 < c.toNat∧c.toNat < 97∧c.toNat≠95∧i=0)∨(122 < c.toNat∧i=0)∨(48≤c.toNat∧c.toNat≤57∧0 < i)∨(c.toNat < 48∧c.toNat=45∧0 < i)∨(c.toNat < 48∧c.toNat≠45∧0 < i)∨(57 < c.toNat∧c.toNat < 97∧c.toNat=95∧0 < i)∨(57 < c.toNat∧c.toNat < 97∧c.toNat≠95∧0 < i)∨(122 < c.toNat∧0 < i)by omega)with hk|hk|hk|hk|hk|hk|hk|hk|hk|hk|hk|hk|hk
  ·skip
   have c25:=bT ((97:Int)≤(c.toNat:Int)) (by omega)
   have c28:=bT ((c.toNat:Int)≤122) (by omega)
   have c31:=bT ((48:Int)≤(c.toNat:Int)) (by omega)
   have c34:=bF ((c.toNat:Int)≤57) (by omega)
   have c38:Value.bool ((c.toNat:Int)==45)=.bool false:=ib (by rw[beq_eq_false_iff_ne];omega)
   have c42:Value.bool ((c.toNat:Int)==95)=.bool false:=ib (by rw[beq_eq_false_iff_ne];omega)
   have h0:LD l (i+1):=yw hi hc (EI rfl (by omega) (by omega))
   refine⟨[(17,.is (.int .i64 (l.length:Int))),(18,.is (.bool true)),(23,.bin (u8 c)),(25,.is (.bool true)),(28,.is (.bool true)),(31,.is (.bool true)),(34,.is (.bool false)),(38,.is (.bool false)),(42,.is (.bool false)),(20,.is (.int .i64 ((i+1:Nat):Int)))],[],?_⟩
   exact Eq.mp (by kernel_rfl) (Sx.t8 c17 c18 c23 c25 c28 c31 c34 c38 (Sx.t4 c42 c20 h0 h1 (And.intro h2 z3)))
  ·skip
   have c25:=bF ((97:Int)≤(c.toNat:Int)) (by omega)
   have c31:=bT ((48:Int)≤(c.toNat:Int)) (by omega)
   have c34:=bT ((c.toNat:Int)≤57) (by omega)
   have c48:Value.bool ((i:Int)==0)=.bool true:=j4 (by rw[beq_iff_eq];omega)
   have z0:Value.bool false=T:=by rw[hT,dP hc (jO rfl (by omega) (by omega))]
   refine⟨[(17,.is (.int .i64 (l.length:Int))),(18,.is (.bool true)),(23,.bin (u8 c)),(25,.is (.bool false)),(31,.is (.bool true)),(34,.is (.bool true)),(48,.is (.bool true))],[],?_⟩
   exact Eq.mp (by kernel_rfl) (Sx.t4 c17 c18 c23 c25 (Sx.t2 c31 c34 (And.intro c48 z0)))
  ·skip
   have c25:=bF ((97:Int)≤(c.toNat:Int)) (by omega)
   have c31:=bF ((48:Int)≤(c.toNat:Int)) (by omega)
   have c38:Value.bool ((c.toNat:Int)==45)=.bool true:=j4 (by rw[beq_iff_eq];omega)
   have c48:Value.bool ((i:Int)==0)=.bool true:=j4 (by rw[beq_iff_eq];omega)
   have z0:Value.bool false=T:=by rw[hT,dP hc (jO rfl (by omega) (by omega))]
   refine⟨[(17,.is (.int .i64 (l.length:Int))),(18,.is (.bool true)),(23,.bin (u8 c)),(25,.is (.bool false)),(31,.is (.bool false)),(38,.is (.bool true)),(48,.is (.bool true))],[],?_⟩
   exact Eq.mp (by kernel_rfl) (Sx.t4 c17 c18 c23 c25 (Sx.t2 c31 c38 (And.intro c48 z0)))
  ·skip
   have c25:=bF ((97:Int)≤(c.toNat:Int)) (by omega)
   have c31:=bF ((48:Int)≤(c.toNat:Int)) (by omega)
   have c38:Value.bool ((c.toNat:Int)==45)=.bool false:=ib (by rw[beq_eq_false_iff_ne];omega)
   have c42:Value.bool ((c.toNat:Int)==95)=.bool false:=ib (by rw[beq_eq_false_iff_ne];omega)
   have c48:Value.bool ((i:Int)==0)=.bool true:=j4 (by rw[beq_iff_eq];omega)
   have z0:Value.bool false=T:=by rw[hT,dP hc (jO rfl (by omega) (by omega))]
   refine⟨[(17,.is (.int .i64 (l.length:Int))),(18,.is (.bool true)),(23,.bin (u8 c)),(25,.is (.bool false)),(31,.is (.bool false)),(38,.is (.bool false)),(42,.is (.bool false)),(48,.is (.bool true))],[],?_⟩
   exact Eq.mp (by kernel_rfl) (Sx.t8 c17 c18 c23 c25 c31 c38 c42 c48 z0)
  ·skip
   have c25:=bF ((97:Int)≤(c.toNat:Int)) (by omega)
   have c31:=bT ((48:Int)≤(c.toNat:Int)) (by omega)
   have c34:=bF ((c.toNat:Int)≤57) (by omega)
   have c38:Value.bool ((c.toNat:Int)==45)=.bool false:=ib (by rw[beq_eq_false_iff_ne];omega)
   have c42:Value.bool ((c.toNat:Int)==95)=.bool true:=j4 (by rw[beq_iff_eq];omega)
   have c48:Value.bool ((i:Int)==0)=.bool true:=j4 (by rw[beq_iff_eq];omega)
   have z0:Value.bool false=T:=by rw[hT,dP hc (jO rfl (by omega) (by omega))]
   refine⟨[(17,.is (.int .i64 (l.length:Int))),(18,.is (.bool true)),(23,.bin (u8 c)),(25,.is (.bool false)),(31,.is (.bool true)),(34,.is (.bool false)),(38,.is (.bool false)),(42,.is (.bool true)),(48,.is (.bool true))],[],?_⟩
   exact Eq.mp (by kernel_rfl) (Sx.t8 c17 c18 c23 c25 c31 c34 c38 c42 (And.intro c48 z0))
  ·skip
   have c25:=bF ((97:Int)≤(c.toNat:Int)) (by omega)
   have c31:=bT ((48:Int)≤(c.toNat:Int)) (by omega)
   have c34:=bF ((c.toNat:Int)≤57) (by omega)
   have c38:Value.bool ((c.toNat:Int)==45)=.bool false:=ib (by rw[beq_eq_false_iff_ne];omega)
   have c42:Value.bool ((c.toNat:Int)==95)=.bool false:=ib (by rw[beq_eq_false_iff_ne];omega)
   have c48:Value.bool ((i:Int)==0)=.bool true:=j4 (by rw[beq_iff_eq];omega)
   have z0:Value.bool false=T:=by rw[hT,dP hc (jO rfl (by omega) (by omega))]
   refine⟨[(17,.is (.int .i64 (l.length:Int))),(18,.is (.bool true)),(23,.bin (u8 c)),(25,.is (.bool false)),(31,.is (.bool true)),(34,.is (.bool false)),(38,.is (.bool false)),(42,.is (.bool false)),(48,.is (.bool true))],[],?_⟩
   exact Eq.mp (by kernel_rfl) (Sx.t8 c17 c18 c23 c25 c31 c34 c38 c42 (And.intro c48 z0))
  ·skip
   have c25:=bT ((97:Int)≤(c.toNat:Int)) (by omega)
   have c28:=bF ((c.toNat:Int)≤122) (by omega)
   have c31:=bT ((48:Int)≤(c.toNat:Int)) (by omega)
   have c34:=bF ((c.toNat:Int)≤57) (by omega)
   have c38:Value.bool ((c.toNat:Int)==45)=.bool false:=ib (by rw[beq_eq_false_iff_ne];omega)
   have c42:Value.bool ((c.toNat:Int)==95)=.bool false:=ib (by rw[beq_eq_false_iff_ne];omega)
   have c48:Value.bool ((i:Int)==0)=.bool true:=j4 (by rw[beq_iff_eq];omega)
   have z0:Value.bool false=T:=by rw[hT,dP hc (jO rfl (by omega) (by omega))]
   refine⟨[(17,.is (.int .i64 (l.length:Int))),(18,.is (.bool true)),(23,.bin (u8 c)),(25,.is (.bool true)),(28,.is (.bool false)),(31,.is (.bool true)),(34,.is (.bool false)),(38,.is (.bool false)),(42,.is (.bool false)),(48,.is (.bool true))],[],?_⟩
   exact Eq.mp (by kernel_rfl) (Sx.t8 c17 c18 c23 c25 c28 c31 c34 c38 (Sx.t2 c42 c48 z0))
  ·skip
   have c25:=bF ((97:Int)≤(c.toNat:Int)) (by omega)
   have c31:=bT ((48:Int)≤(c.toNat:Int)) (by omega)
   have c34:=bT ((c.toNat:Int)≤57) (by omega)
   have c48:Value.bool ((i:Int)==0)=.bool false:=ib (by rw[beq_eq_false_iff_ne];omega)
   have h0:LD l (i+1):=yw hi hc (oq rfl (by omega) (by omega))
   refine⟨[(17,.is (.int .i64 (l.length:Int))),(18,.is (.bool true)),(23,.bin (u8 c)),(25,.is (.bool false)),(31,.is (.bool true)),(34,.is (.bool true)),(48,.is (.bool false)),(20,.is (.int .i64 ((i+1:Nat):Int)))],[],?_⟩
   exact Eq.mp (by kernel_rfl) (Sx.t8 c17 c18 c23 c25 c31 c34 c48 c20 (Sx.t2 h0 h1 (And.intro h2 z3)))
  ·skip
   have c25:=bF ((97:Int)≤(c.toNat:Int)) (by omega)
   have c31:=bF ((48:Int)≤(c.toNat:Int)) (by omega)
   have c38:Value.bool ((c.toNat:Int)==45)=.bool true:=j4 (by rw[beq_iff_eq];omega)
   have c48:Value.bool ((i:Int)==0)=.bool false:=ib (by rw[beq_eq_false_iff_ne];omega)
   have h0:LD l (i+1):=yw hi hc (oq rfl (by omega) (by omega))
   refine⟨[(17,.is (.int .i64 (l.length:Int))),(18,.is (.bool true)),(23,.bin (u8 c)),(25,.is (.bool false)),(31,.is (.bool false)),(38,.is (.bool true)),(48,.is (.bool false)),(20,.is (.int .i64 ((i+1:Nat):Int)))],[],?_⟩
   exact Eq.mp (by kernel_rfl) (Sx.t8 c17 c18 c23 c25 c31 c38 c48 c20 (Sx.t2 h0 h1 (And.intro h2 z3)))
  ·skip
   have c25:=bF ((97:Int)≤(c.toNat:Int)) (by omega)
   have c31:=bF ((48:Int)≤(c.toNat:Int)) (by omega)
   have c38:Value.bool ((c.toNat:Int)==45)=.bool false:=ib (by rw[beq_eq_false_iff_ne];omega)
   have c42:Value.bool ((c.toNat:Int)==95)=.bool false:=ib (by rw[beq_eq_false_iff_ne];omega)
   have c48:Value.bool ((i:Int)==0)=.bool false:=ib (by rw[beq_eq_false_iff_ne];omega)
   have z0:Value.bool false=T:=by rw[hT,dP hc (jO rfl (by omega) (by omega))]
   refine⟨[(17,.is (.int .i64 (l.length:Int))),(18,.is (.bool true)),(23,.bin (u8 c)),(25,.is (.bool false)),(31,.is (.bool false)),(38,.is (.bool false)),(42,.is (.bool false)),(48,.is (.bool false))],[],?_⟩
   exact Eq.mp (by kernel_rfl) (Sx.t8 c17 c18 c23 c25 c31 c38 c42 c48 z0)
  ·skip
   have c25:=bF ((97:Int)≤(c.toNat:Int)) (by omega)
   have c31:=bT ((48:Int)≤(c.toNat:Int)) (by omega)
   have c34:=bF ((c.toNat:Int)≤57) (by omega)
   have c38:Value.bool ((c.toNat:Int)==45)=.bool false:=ib (by rw[beq_eq_false_iff_ne];omega)
   have c42:Value.bool ((c.toNat:Int)==95)=.bool true:=j4 (by rw[beq_iff_eq];omega)
   have c48:Value.bool ((i:Int)==0)=.bool false:=ib (by rw[beq_eq_false_iff_ne];omega)
   have h0:LD l (i+1):=yw hi hc (oq rfl (by omega) (by omega))
   refine⟨[(17,.is (.int .i64 (l.length:Int))),(18,.is (.bool true)),(23,.bin (u8 c)),(25,.is (.bool false)),(31,.is (.bool true)),(34,.is (.bool false)),(38,.is (.bool false)),(42,.is (.bool true)),(48,.is (.bool false)),(20,.is (.int .i64 ((i+1:Nat):Int)))],[],?_⟩
   exact Eq.mp (by kernel_rfl) (Sx.t8 c17 c18 c23 c25 c31 c34 c38 c42 (Sx.t4 c48 c20 h0 h1 (And.intro h2 z3)))
  ·skip
   have c25:=bF ((97:Int)≤(c.toNat:Int)) (by omega)
   have c31:=bT ((48:Int)≤(c.toNat:Int)) (by omega)
   have c34:=bF ((c.toNat:Int)≤57) (by omega)
   have c38:Value.bool ((c.toNat:Int)==45)=.bool false:=ib (by rw[beq_eq_false_iff_ne];omega)
   have c42:Value.bool ((c.toNat:Int)==95)=.bool false:=ib (by rw[beq_eq_false_iff_ne];omega)
   have c48:Value.bool ((i:Int)==0)=.bool false:=ib (by rw[beq_eq_false_iff_ne];omega)
   have z0:Value.bool false=T:=by rw[hT,dP hc (jO rfl (by omega) (by omega))]
   refine⟨[(17,.is (.int .i64 (l.length:Int))),(18,.is (.bool true)),(23,.bin (u8 c)),(25,.is (.bool false)),(31,.is (.bool true)),(34,.is (.bool false)),(38,.is (.bool false)),(42,.is (.bool false)),(48,.is (.bool false))],[],?_⟩
   exact Eq.mp (by kernel_rfl) (Sx.t8 c17 c18 c23 c25 c31 c34 c38 c42 (And.intro c48 z0))
  ·skip
   have c25:=bT ((97:Int)≤(c.toNat:Int)) (by omega)
   have c28:=bF ((c.toNat:Int)≤122) (by omega)
   have c31:=bT ((48:Int)≤(c.toNat:Int)) (by omega)
   have c34:=bF ((c.toNat:Int)≤57) (by omega)
   have c38:Value.bool ((c.toNat:Int)==45)=.bool false:=ib (by rw[beq_eq_false_iff_ne];omega)
   have c42:Value.bool ((c.toNat:Int)==95)=.bool false:=ib (by rw[beq_eq_false_iff_ne];omega)
   have c48:Value.bool ((i:Int)==0)=.bool false:=ib (by rw[beq_eq_false_iff_ne];omega)
   have z0:Value.bool false=T:=by rw[hT,dP hc (jO rfl (by omega) (by omega))]
   refine⟨[(17,.is (.int .i64 (l.length:Int))),(18,.is (.bool true)),(23,.bin (u8 c)),(25,.is (.bool true)),(28,.is (.bool false)),(31,.is (.bool true)),(34,.is (.bool false)),(38,.is (.bool false)),(42,.is (.bool false)),(48,.is (.bool false))],[],?_⟩
   exact Eq.mp (by kernel_rfl) (Sx.t8 c17 c18 c23 c25 c28 c31 c34 c38 (Sx.t2 c42 c48 z0))
 ·have c18:=bF ((i:Int) < (l.length:Int)) (by omega)
  have h0:∀c j,l[j]?=some c→wu j c=true:=fun c j hj=>hi.2 j c (by have:=(List.getElem?_eq_some_iff.1 hj).1;omega) hj
  have h1:Nj l=Nj l:=rfl
  have z2:([]:List Sx.Row)=[]:=rfl
  refine⟨[(17,.is (.int .i64 (l.length:Int))),(18,.is (.bool false))],[],?_⟩
  exact Eq.mp (by kernel_rfl) (Sx.t4 c17 c18 h0 h1 z2)
def Ni(l:List UInt8):List Sx.Loop:=[.mk Nat 0 (LD l) (CY l) (fun _=>[]) (fun i=>i+1) (fun i=>l.length+2 - i) Unit (fun _=>∀c j,l[j]?=some c→wu j c=true) (fun _=>Nj l) (fun _=>[]) (fun _=>())]
theorem qb(l:List UInt8)(w:World):Calls prog 34 #[.string ⟨l.toArray⟩] w (Rn w (.bool (aB l))):=by
 have c8:=iq l
 have c12:=iq l
 by_cases h1:l.length < 1
 ·have c9:=bT ((l.length:Int) < 1) (by omega)
  have z0:Value.bool false=.bool (aB l):=by unfold aB;rw[decide_eq_false (by omega)];rfl
  refine Sx.aF (args:=[.string ⟨l.toArray⟩]) [(8,.is (.int .i64 (l.length:Int))),(9,.is (.bool true))] [] (by kernel_rfl) func34 rfl (cn rfl) ?_
  exact Eq.mp (by kernel_rfl) (Sx.t2 c8 c9 z0)
 have c9:=bF ((l.length:Int) < 1) (by omega)
 by_cases h16:16 < l.length
 ·have c13:=bT ((16:Int) < (l.length:Int)) (by omega)
  have z0:Value.bool false=.bool (aB l):=by unfold aB;rw[decide_eq_false (show ¬l.length≤16 by omega)];simp
  refine Sx.aF (args:=[.string ⟨l.toArray⟩]) [(8,.is (.int .i64 (l.length:Int))),(9,.is (.bool false)),(12,.is (.int .i64 (l.length:Int))),(13,.is (.bool true))] [] (by kernel_rfl) func34 rfl (cn rfl) ?_
  exact Eq.mp (by kernel_rfl) (Sx.t4 c8 c9 c12 c13 z0)
 have c13:=bF ((16:Int) < (l.length:Int)) (by omega)
 have e1:CY l 0=CY l 0∧([]:List Sx.Row)=[]:=⟨rfl,rfl⟩
 have jo:=II l (.bool (aB l)) w (by omega) (by omega) rfl
 have z5f:Unit→(∀c j,l[j]?=some c→wu j c=true)→Value.bool true=.bool (aB l):=fun _ h=>by rw[xl (by omega) (by omega) (fun i c hi=>h c i hi)]
 have h0:LD l 0:=⟨Nat.zero_le _,fun j c hj=>absurd hj (Nat.not_lt_zero _)⟩
 refine Sx.aF (args:=[.string ⟨l.toArray⟩]) [(8,.is (.int .i64 (l.length:Int))),(9,.is (.bool false)),(12,.is (.int .i64 (l.length:Int))),(13,.is (.bool false))] (Ni l) (by kernel_rfl) func34 rfl (cn rfl) ?_
 exact Eq.mp (by kernel_rfl) (Sx.t4 c8 c9 c12 c13 (Sx.t2 h0 e1 (And.intro jo (fun(x3:Unit) (hx4:∀(c:UInt8) (j:Nat),l[j]?=Option.some c→wu j c=true)=>(z5f x3 hx4)))))
open Go Go.RowKit Go.Lib Go.Sort _root_.Go.Proofs.Tryz
def oZ(r:Rl):Bs:=vc++r.name++[32]++dQ r.mt++AT++oL r.act r.out
def mW(r:Rl):Bs:=if decide (r.bC=[])=true then oZ r else oZ r++qv++r.bC
def mX(r:Rl):Bs:=if decide (r.aP=[])=true then mW r else mW r++vd++r.aP
def rV(r:Rl)(p:fx):fx:=cA (iW r.aP) 201 (cA (iW r.bC) 201 (cA (ju r.act r.out) 2 (cA (bp r.mt) 190 (cA (aB r.name) 201 p))))
def ij(r:Rl)(p:fx):fx:=eD (mX r) (rV r p)
theorem Mx(r:Rl)(p:fx):(rV r p).1=p.1:=rfl
theorem uf(act out:Int):(oL act out).length≤100:=by
 have:=dv _ (mw out)
 unfold oL rZ
 generalize aj 10 (uN out)=x at this ⊢
 cases(act==1)
 case true=>show de.length≤100;decide
 cases(act==2)
 case true=>show kq.length≤100;decide
 cases(act==3)
 case true=>show(so++x).length≤100;rw[List.length_append];show 4+_≤100;omega
 cases(act==4)
 case true=>show ga.length≤100;decide
 show 0≤100;omega
theorem uM(m:Mt)(hm:m.Wf):(dQ m).length≤1200000000:=by
 by_cases h:m.asks=0
 ·unfold dQ;rw[if_pos h];decide
 ·rw[rv m h]
  exact yz m hm 6 (Nat.le_refl _)
theorem MV(g:Nat)(r:Rl)(hr:r.Wf)(p:fx)(hp:p.1.length≤1000000000000000000)(ln:r.name.length≤1000000000000000)(le:r.bC.length≤1000000000000000)(li:r.aP.length≤1000000000000000)(w:World)(hb:au w g 142 (eS p))(PP:List PanicEntry→World→Prop) :
  Calls prog 81 #[.pointer (some ⟨g,0,none⟩),.agg r.cells.toArray] w (Sx.ew ⟨w,[g],PP⟩ (SB g (ij r p))):=by
 have ha:ju r.act r.out=(((decide (r.act≥1)&&decide (r.act≤4))&&decide (r.out≥0))&&((r.out==0)||(r.act==3))):=by
  unfold ju
  rw[Bool.and_assoc (_&&_)]
  have h1:(r.out==0)=decide (r.out=0):=by by_cases h:r.out=0<;>simp[h]
  have h2:(r.act==3)=decide (r.act=3):=by by_cases h:r.act=3<;>simp[h]
  rw[h1,h2]
 refine MT g r p _ _ _ _ _ (ij r p) w hb PP (aB r.name) (bp r.mt) _ _ _ _ _ _ _ (aB r.bC) (aB r.aP) _ false false (dQ r.mt) (oL r.act r.out) _ _ _ _ _ _ (mW r) _ (mX r)
  (fun W _=>qb r.name W) (fun W _=>I1 r.mt hr.m W) rfl rfl rfl rfl rfl rfl rfl rfl
  (fun W _=>qb r.bC W) (fun W _=>qb r.aP W) (fun W _=>IJ r.mt hr.m W) (fun W _=>IY r.act r.out W) rfl rfl rfl rfl rfl
  rfl rfl rfl rfl rfl rfl rfl rfl rfl hp ln (Nat.le_trans (uM r.mt hr.m) (by omega)) (uf _ _) le li ?_
 rw[←ha]
 show eD (mX r) (rV r p)=if((rV r p).2 !=0)=true then rV r p else eD (mX r) (rV r p)
 by_cases h:(rV r p).2=0
 ·rw[h,if_neg (by decide)]
 ·rw[if_pos (by simpa using h)]
  unfold eD
  rw[decide_eq_false h]
open Go Go.RowKit Go.Lib Go.Sort
def ic(p0:fx)(f:Nat→fx→fx):Nat→fx
 | 0=>p0
 |i+1=>f i (ic p0 f i)
theorem jA(x:Bs)(p:fx):(eD x p).1.length≤p.1.length+(x.length+1):=by
 unfold eD
 cases decide (p.2=0)with
 |true=>show(p.1++x++[10]).length≤_;simp only[List.length_append,List.length_cons,List.length_nil];omega
 |false=>show p.1.length≤_;omega
def nB:Bs:=[112,111,114,116,32]
def kj(n:Int)(p:fx):fx:=eD (nB++aj 10 (uN n)) (cA (decide (n≥0)) 2 p)
theorem wV(n:Int)(p:fx):(kj n p).1.length≤p.1.length+1000:=by
 have h1:=jA (nB++aj 10 (uN n)) (cA (decide (n≥0)) 2 p)
 have h2:=dv _ (mw n)
 have h3:(nB++aj 10 (uN n)).length=5+(aj 10 (uN n)).length:=by rw[List.length_append];rfl
 have h4:(cA (decide (n≥0)) 2 p).1=p.1:=rfl
 rw[h4]at h1
 show(eD _ _).1.length≤_
 omega
open Go Go.RowKit Go.Lib Go.Sort
theorem gp{b:Bool}{c e:Int}(hc:c≠0)(h:aI b c e=0):b=true∧e=0:=by
 cases b with
 |true=>exact⟨rfl,h⟩
 |false=>
  unfold aI at h
  by_cases he:e=0
  ·rw[decide_eq_true he]at h;exact absurd h hc
  ·rw[decide_eq_false he]at h;exact absurd h he
def Inv(p:fx)(T:Bs)(E:Int):Prop:=p.2=E∧(E=0→p.1=T)
theorem Inv.want{p:fx}{T:Bs}{E:Int}(h:Inv p T E)(b:Bool){c:Int}(hc:c≠0):Inv (cA b c p) T (aI b c E):=
 ⟨by show aI b c p.2=_;rw[h.1],fun h0=>h.2 (gp hc h0).2⟩
theorem Inv.line{p:fx}{T:Bs}{E:Int}(h:Inv p T E){x:Bs}{ws:List Bs}(hx:E=0→x++[10]=eW ws):Inv (eD x p) (T++eW ws) E:=by
 obtain⟨h1,h2⟩:=h
 unfold eD
 by_cases h0:E=0
 ·rw[h1,decide_eq_true h0]
  exact⟨rfl,fun _=>by show p.1++x++[10]=_;rw[h2 h0,List.append_assoc,hx h0]⟩
 ·rw[h1,decide_eq_false h0]
  exact⟨h1,fun h=>absurd h h0⟩
theorem Inv.list{α:Type} [Inhabited α]{l:List α}{F:α→fx→fx}{ws:α→List Bs}{Ef:Int→α→Int}(hF:∀x∈l,∀(p:fx) (T:Bs) (E:Int),Inv p T E→Inv (F x p) (T++eW (ws x)) (Ef E x)){p:fx}{T:Bs}{E:Int}(h:Inv p T E) :
  ∀i,i≤l.length→Inv (ic p (fun i=>F (l.getD i default)) i) (tI T (fun i=>ws (l.getD i default)) i) (eI E (fun i e=>Ef e (l.getD i default)) i)
 | 0,_=>h
 |i+1,hi=>hF _ (bX (by omega)) _ _ _ (Inv.list hF h i (by omega))
theorem qw{n:Int}(h0:0≤n)(h:mD n):cz n=aj 10 (uN n):=by
 unfold cz
 rw[if_neg (by omega),Q5 h0 h.2]
theorem Gf(n:Int)(hn:mD n){p:fx}{T:Bs}{E:Int}(h:Inv p T E):Inv (kj n p) (T++eW (eg n)) (Aj E n):=by
 refine(h.want (decide (n≥0)) (c:=2) (by decide)).line fun h0=>?_
 have hz:n≥0:=of_decide_eq_true (gp (by decide) h0).1
 unfold eg
 rw[qw hz hn]
 simp[nB,kp,eW,ao]
def wB:Bs:=[114,111,117,116,101,32]
def qa(r:Rt):Bs:=wB++pK r.pf++[32]++aj 10 (uN r.out)
def gQ(r:Rt)(p:fx):fx:=eD (qa r) (cA (decide (r.out≥0)) 2 (cA (gh r.pf.v r.pf.n r.pf.k) 151 p))
theorem CG(r:Rt)(hr:r.Wf){p:fx}{T:Bs}{E:Int}(h:Inv p T E):Inv (gQ r p) (T++eW (ek r)) (tY E r):=by
 refine((h.want (gh r.pf.v r.pf.n r.pf.k) (c:=151) (by decide)).want (decide (r.out≥0)) (c:=2) (by decide)).line fun h0=>?_
 have hz:r.out≥0:=of_decide_eq_true (gp (by decide) h0).1
 unfold ek qa
 rw[qw hz hr.o]
 simp[wB,de,eW,ao]
def JQ:Bs:=[109,101,116,101,114,32]
def ql(m:Me):Bs:=JQ++m.name++[32]++aj 10 m.num++[32]++aj 10 m.den++[32]++aj 10 m.iu
def gW(m:Me)(p:fx):fx:=eD (ql m) (cA (aB m.name) 201 p)
theorem C8(m:Me){p:fx}{T:Bs}{E:Int}(h:Inv p T E):Inv (gW m p) (T++eW (ep m)) (uL E m):=by
 refine(h.want (aB m.name) (c:=201) (by decide)).line fun _=>?_
 unfold ep ql
 simp[JQ,bK,eW,ao]
def JR:Bs:=[109,105,114,114,111,114,32]
def nt(m:Mi):Bs:=JR++m.name++[32]++aj 10 (uN m.out)++[32]++aj 10 (uN m.room)
def fp(m:Mi)(p:fx):fx:=eD (nt m) (cA (decide (m.out≥0)&&decide (m.room≥0)) 2 (cA (aB m.name) 201 p))
theorem Ay(m:Mi)(ho:mD m.out)(hr:mD m.room){p:fx}{T:Bs}{E:Int}(h:Inv p T E):Inv (fp m p) (T++eW (cI m)) (jq E m):=by
 refine((h.want (aB m.name) (c:=201) (by decide)).want (decide (m.out≥0)&&decide (m.room≥0)) (c:=2) (by decide)).line fun h0=>?_
 have hz:=(gp (by decide) h0).1
 rw[Bool.and_eq_true,decide_eq_true_iff,decide_eq_true_iff]at hz
 unfold cI nt
 rw[qw hz.1 ho,qw hz.2 hr]
 simp[JR,bh,eW,ao]
theorem Gd(act out:Int)(ho:mD out)(h:ju act out=true):ao 32 (aM act out)=oL act out∧aM act out≠[]:=by
 unfold ju at h
 simp only[Bool.and_eq_true,Bool.or_eq_true,decide_eq_true_eq]at h
 obtain⟨⟨h1,h2⟩,h3,h4⟩:=h
 have hc:act=1∨act=2∨act=3∨act=4:=by omega
 rcases hc with rfl|rfl|rfl|rfl
 ·exact⟨rfl,by simp[aM]⟩
 ·exact⟨rfl,by simp[aM]⟩
 ·refine⟨?_,by simp[aM]⟩
  unfold aM oL
  rw[qw h3 ho]
  show ao 32 [nC,aj 10 (uN out)]=so++aj 10 (uN out)
  simp[ao,nC,so]
 ·exact⟨rfl,by simp[aM]⟩
theorem Dn(k x:Bs):∀ws:List Bs,ws≠[]→ao 32 (ws++[k,x])=ao 32 ws++32::k++32::x:=fun ws hw=>by
 rw[rG ws k x hw];simp
theorem AY(k x:Bs)(ws:List Bs)(hw:ws≠[]):ao 32 (ws++cR k x)=if decide (x=[])=true then ao 32 ws else ao 32 ws++32::k++32::x:=by
 unfold cR
 by_cases h:x=[]
 ·rw[if_pos h,decide_eq_true h,if_pos rfl,List.append_nil]
 ·rw[if_neg h,decide_eq_false h,if_neg (by decide),Dn _ _ _ hw]
theorem FV(r:Rl)(hr:r.Wf)(hc:bp r.mt=true)(ha:ju r.act r.out=true):mX r++[10]=eW (db r):=by
 obtain⟨hj,hn⟩:=Gd r.act r.out hr.o ha
 have e1:ao 32 ([gg,r.name,Ak r.mt,u6]++aM r.act r.out)=oZ r:=by
  have:Ak r.mt=dQ r.mt:=by unfold Ak;rw[hc]
  rw[this]
  obtain⟨a,l,hl⟩:=List.exists_cons_of_ne_nil hn
  unfold oZ
  rw[←hj,hl]
  simp[ao,gg,vc,u6,AT]
 have e2:ao 32 ([gg,r.name,Ak r.mt,u6]++aM r.act r.out++cR bK r.bC)=mW r:=by
  rw[AY _ _ _ (by simp),e1]
  unfold mW
  split
  ·rfl
  ·simp[bK,qv]
 have e3:ao 32 (db r)=mX r:=by
  unfold db
  rw[AY _ _ _ (by simp),e2]
  unfold mX
  split
  ·rfl
  ·simp[bh,vd]
 unfold eW
 rw[e3]
theorem F0(r:Rl)(hr:r.Wf){p:fx}{T:Bs}{E:Int}(h:Inv p T E):Inv (ij r p) (T++eW (db r)) (pY E r):=by
 refine(((((h.want (aB r.name) (c:=201) (by decide)).want (bp r.mt) (c:=190) (by decide)).want (ju r.act r.out) (c:=2) (by decide)).want (iW r.bC) (c:=201) (by decide)).want (iW r.aP) (c:=201) (by decide)).line fun h0=>?_
 obtain⟨_,h1⟩:=gp (by decide) h0
 obtain⟨_,h2⟩:=gp (by decide) h1
 obtain⟨ha,h3⟩:=gp (by decide) h2
 obtain⟨hc,_⟩:=gp (by decide) h3
 exact FV r hr hc ha
def Dl:Bs:=[100,101,102,97,117,108,116,32]
def By(d:Int):Bool:=(decide (d=1)||(decide (d=2)||decide (d=4)))
def Pa(d:Int)(p:fx):fx:=eD (Dl++oL d 0) (cA (By d) 2 p)
theorem GY(d:Int){p:fx}{T:Bs}{E:Int}(h:Inv p T E):Inv (Pa d p) (T++eW (iI d)) (Fk E d):=by
 refine(h.want (By d) (c:=2) (by decide)).line fun h0=>?_
 have hz:=(gp (by decide) h0).1
 unfold By at hz
 simp only[Bool.or_eq_true,decide_eq_true_eq]at hz
 rcases hz with rfl|rfl|rfl<;>rfl
def q1(cf:CF):fx:=ic ([],0) (fun i=>kj (cf.ag.getD i default)) cf.ag.length
def q2(cf:CF):fx:=ic (q1 cf) (fun i=>gQ (cf.ae.getD i default)) cf.ae.length
def q3(cf:CF):fx:=ic (q2 cf) (fun i=>gW (cf.af.getD i default)) cf.af.length
def q4(cf:CF):fx:=ic (q3 cf) (fun i=>fp (cf.aa.getD i default)) cf.aa.length
def q5(cf:CF):fx:=ic (q4 cf) (fun i=>ij (cf.rules.getD i default)) cf.rules.length
def q6(cf:CF):fx:=Pa cf.aS (q5 cf)
def q7(cf:CF):fx:=cA (decide ((q6 cf).1.length≤65536)) 4 (q6 cf)
theorem PR(cf:CF)(hw:da cf):Inv (q5 cf) (T5 cf) (E5 cf):=by
 have h0:Inv ([],0) [] 0:=⟨rfl,fun _=>rfl⟩
 have h1:Inv (q1 cf) (T1 cf) (E1 cf):=Inv.list (fun x hx p T E h=>Gf x (hw.p x hx) h) h0 _ (Nat.le_refl _)
 have h2:Inv (q2 cf) (T2 cf) (E2 cf):=Inv.list (fun x hx p T E h=>CG x (hw.r x hx) h) h1 _ (Nat.le_refl _)
 have h3:Inv (q3 cf) (T3 cf) (E3 cf):=Inv.list (fun x _ p T E h=>C8 x h) h2 _ (Nat.le_refl _)
 have h4:Inv (q4 cf) (T4 cf) (E4 cf):=Inv.list (fun x hx p T E h=>Ay x (hw.i x hx).o (hw.i x hx).r h) h3 _ (Nat.le_refl _)
 exact Inv.list (fun x hx p T E h=>F0 x (hw.l x hx) h) h4 _ (Nat.le_refl _)
theorem PQ(cf:CF)(hw:da cf):Inv (q6 cf) (eh cf) (lB cf):=by
 rw[←Pj,←Po]
 exact GY cf.aS (PR cf hw)
theorem I3(cf:CF)(hw:da cf):(match(q7 cf).2 !=0 with|true=>([],(q7 cf).2)|false=>((q7 cf).1,0))=dG cf:=by
 obtain⟨h1,h2⟩:=PQ cf hw
 have he:(q7 cf).2=rK cf:=by
  show aI _ 4 (q6 cf).2=aI _ 4 (lB cf)
  rw[h1]
  by_cases h0:lB cf=0
  ·rw[h2 h0]
  ·have:∀b,aI b 4 (lB cf)=lB cf:=fun b=>by
    cases b with
    |true=>rfl
    |false=>unfold aI;rw[decide_eq_false h0]
   rw[this,this]
 have ht:(q7 cf).1=(q6 cf).1:=rfl
 unfold dG
 rw[he]
 by_cases h0:rK cf=0
 ·rw[if_pos h0,h0]
  have hc:lB cf=0:=(gp (by decide) h0).2
  show((q7 cf).1,(0:Int))=_
  rw[ht,h2 hc]
 ·rw[if_neg h0,(bne_iff_ne.2 h0:(rK cf !=0)=true)]
end Go.Proofs.YtnncigmpcdehnaaGreatDoor
