import Derived.Test.YtnncigmpcdehnaaGreatDoorQg07
import Derived.ScopeJumps
import Derived.Defers
import Derived.Recover
import Derived.LaidEql
import Derived.Stop.Asserts
import Derived.RowKitTokens
open List renaming mem_filterMap→WN,getElem?_eq_some_iff→WQ,getElem?_eq_getElem→WR,nodup_cons→WT,mem_singleton→WV,mem_cons_of_mem→WW,mem_cons→WY,mem_of_getElem?→WZ,drop_eq_getElem_cons→W0,getD_eq_getElem?_getD→W6,mem_map→W9,map_cons→Xh,drop_of_length_le→Xi,length_singleton→Xj,length_append→Xn,getElem?_drop→Xo,getElem?_map→Xq,not_mem_nil→Xt,mem_append→Xu
open And renaming intro→WO
open Go.Value renaming bool→WS,int→WU,tuple→Xx
open Go.IntKind renaming i64→WX,u8→Xe
open Go.Result renaming andThen→W2
open Nat renaming le_refl→W3,zero_le→Xa,zero_add→Xl,mul_one→Xm
open Go.Instr renaming sliceAt→W4,sliceBounds→Xp,sliceBound→Xr,makeFunc→Xv,slice→Xy
open Option renaming some→W5,map→W7
open Eq renaming mp→W8
open Int renaming toNat_natCast→Xb,tmod_eq_emod_of_nonneg→Xf,tdiv_eq_ediv_of_nonneg→Xg
open Bool renaming and_eq_true→Xc,eq_false_iff→Xs,false_or→Xw
open Array renaming replicate→Xd
namespace Go.Proofs.YtnncigmpcdehnaaGreatDoor
set_option maxRecDepth 100000
open Go.RowKit Go.Lib Go.Sort _root_.Go.Proofs.Tryz
set_option maxRecDepth 100000
theorem AH(l:List UInt8)(a b:Nat):(⟨l.toArray⟩:ByteArray).extract a b=⟨((l.take b).drop a).toArray⟩:=by apply ByteArray.ext;simp[List.extract_eq_take_drop,List.drop_take]
theorem uU(s:List UInt8)(hi:Nat)(h2:hi≤s.length)(W:World):(W4 9 (.string ⟨s.toArray⟩) none (some (.int .i64 hi)) none).run prog W=.ok (.string ⟨(s.take hi).toArray⟩) W:=by
 have hs:(⟨s.toArray⟩:ByteArray).size=s.length:=by simp[ByteArray.size]
 have:=AH s 0 hi;simp only[List.drop_zero]at this;rw[←this];simp[W4,run_underlying underlying9,Xy,Xp,Xr,asIntOf,hs,h2]
theorem uV(s:List UInt8)(lo:Nat)(h2:lo≤s.length)(W:World):(W4 9 (.string ⟨s.toArray⟩) (some (.int .i64 lo)) none none).run prog W=.ok (.string ⟨(s.drop lo).toArray⟩) W:=by
 have hs:(⟨s.toArray⟩:ByteArray).size=s.length:=by simp[ByteArray.size]
 have:=AH s lo s.length;rw[List.take_length]at this;rw[←this];simp[W4,run_underlying underlying9,Xy,Xp,Xr,asIntOf,hs,h2]
theorem pn(s:List UInt8)(j:Nat):Lib.occAt s [58,58] j=true↔s[j]?=some 58∧s[j+1]?=some 58:=by
 unfold Lib.occAt;rw[List.isPrefixOf_iff_prefix];constructor
 ·rintro⟨t,ht⟩
  have h0:(s.drop j)[0]?=some 58:=by rw[←ht];rfl
  have h1:(s.drop j)[1]?=some 58:=by rw[←ht];rfl
  rw[Xo]at h0 h1;exact⟨h0,h1⟩
 ·rintro⟨h0,h1⟩
  obtain⟨l0,e0⟩:=WQ.1 h0;obtain⟨l1,e1⟩:=WQ.1 h1;exact⟨s.drop (j+2),by rw[W0 l0,e0,W0 l1,e1];rfl⟩
def dd(s:List UInt8):Int:=Lib.index s [58,58]
theorem P3(s:List UInt8)(h:∀j,j+1 < s.length→Lib.occAt s [58,58] j=false):dd s = -1:=by
 rcases Lib.index_spec s [58,58]with⟨h1,_⟩ | ⟨i,h1,_,h3,_⟩
 ·exact h1
 ·have h4:=(pn s i).1 h3
  have:=(WQ.1 h4.2).1;rw[h i this]at h3;cases h3
theorem P2(s:List UInt8)(i:Nat)(h:∀j,j < i→Lib.occAt s [58,58] j=false)(h2:Lib.occAt s [58,58] i=true):dd s=i:=by
 rcases Lib.index_spec s [58,58]with⟨_,h1⟩ | ⟨k,h1,_,h3,h4⟩
 ·have h5:=(pn s i).1 h2
  have:=(WQ.1 h5.2).1;rw[h1 i (by omega)]at h2;cases h2
 ·unfold dd
  rw[h1];rcases Nat.lt_trichotomy k i with hk|hk|hk
  ·rw[h k hk]at h3;cases h3
  ·rw[hk]
  ·rw[h4 i hk]at h2;cases h2
def U0(v:Bool)(f:Nat→Nat):Sx.Row:=⟨24,.aj (aw v f)⟩
def Sy(s:List UInt8)(k:Nat×Int):Prop:=k.1≤s.length∧((k.2 = -1∧∀j,j < k.1→Lib.occAt s [58,58] j=false)∨(k.2=dd s∧0≤dd s))
def oG(s:List UInt8)(k:Nat×Int):Nat×Int:=if s[k.1]?=some 58∧s[k.1+1]?=some 58 then(k.1+1,(k.1:Int))else(k.1+1,k.2)
def xj(s:List UInt8)(k:Nat×Int):List (Nat×Sx.SV):=[(0,.val (.string ⟨s.toArray⟩)),(2,.ptr 0 0),(4,.ptr 1 0),(5,.val (.int .i64 k.2)),(6,.val (.int .i64 (k.1:Int)))]
def jg:List Sx.Row:=[⟨24,.aj NS⟩,U0 true fun _=>0]
def CZ(s:List UInt8):List (Nat×Sx.SV):=[(0,.val (.string ⟨s.toArray⟩)),(2,.ptr 0 0),(4,.ptr 1 0),(5,.val (.int .i64 (dd s)))]
def xG(T:(Nat→Nat)×Bool):Value:=.tuple #[.agg (aw true T.1).toArray,.bool T.2]
theorem Oc(s:List UInt8)(T:Value)(w:World)(hs:s.length≤100000000)(k:Nat×Int)(hk:Sy s k):∃H' L',Sx.ex prog 144 w (Sx.bq f46 0) H' L' ⟨xj s k,jg⟩
  (Sx.dP (Sy s) (xj s) (fun _=>jg) (oG s) (fun q=>s.length+2 - q.1) (fun(_:Unit)=>True) (fun _=>CZ s) (fun _=>jg) (fun _=>()) (Sx.eo (Sx.bq f46 0) - 1) (Sx.atEnd prog f46 (fun u=>u=T) .ret) k):=by
 obtain⟨i,t⟩:=k;obtain⟨hi,hk⟩:=hk;simp only at hi hk;have c18:=mY (i:=i) (by omega);have c20:=iY s;have c27:=c18;have xD:=c18;have out:t=dd s→CZ s=CZ s:=fun _=>rfl;have h0:True:=trivial;by_cases h1:i+1 < s.length
 ·have c21:=bT (((i+1:Nat):Int) < (s.length:Int)) (by omega)
  rcases hk with⟨rfl,hno⟩ | ⟨rfl,hpos⟩
  ·obtain⟨c,hc⟩:∃c,s[i]?=some c:=⟨_,WR (by omega)⟩
   obtain⟨d,hd⟩:∃d,s[i+1]?=some d:=⟨_,WR h1⟩;have c30:=lF s i c hc;have xR:=lF s (i+1) d hd;have hlt:s.length+2 - (i+1) < s.length+2 - i:=by omega
   by_cases hc58:c=58
   ·have c31:WS ((c.toNat:Int)==58)=.bool true:=qI (by rw[hc58];rfl)
    by_cases hd58:d=58
    ·have c37:WS ((d.toNat:Int)==58)=.bool true:=qI (by rw[hd58];rfl)
     have hnx:oG s (i, -1)=(i+1,(i:Int)):=by unfold oG; rw[if_pos ⟨by rw[←hc58]; exact hc,by rw[←hd58]; exact hd⟩]
     have hdd:dd s=i:=P2 s i hno ((pn s i).2 ⟨by rw[←hc58];exact hc,by rw[←hd58];exact hd⟩);have h0:Sy s (i+1,(i:Int)):=⟨by show i+1≤_;omega,.inr ⟨hdd.symm,by omega⟩⟩;have h1:=hlt;have h2:xj s (i+1,(i:Int))=xj s (i+1,(i:Int)):=rfl;have z3:jg=jg:=rfl;refine⟨[(18,.is (.int .i64 ((i+1:Nat):Int))),(20,.is (.int .i64 (s.length:Int))),(21,.is (.bool true)),(30,.bin (u8 c)),(31,.is (.bool true)),(35,.is (.int .i64 ((i+1:Nat):Int))),(36,.bin (u8 d)),(37,.is (.bool true)),(27,.is (.int .i64 ((i+1:Nat):Int)))],[],?_⟩;rw[eu hnx];exact W8 (by kernel_rfl) (Sx.t8 c18 c20 c21 c30 c31 xD xR c37 (Sx.t4 c27 h0 h1 h2 z3))
    ·have c37:WS ((d.toNat:Int)==58)=.bool false:=qa (by
      have:d.toNat≠58:=fun h=>hd58 (UInt8.toNat_inj.1 (by rw[h];rfl));simp;omega)
     have hnx:oG s (i, -1)=(i+1, -1):=by unfold oG; rw[if_neg (by rintro⟨_,h⟩; simp only at h; rw[hd]at h; exact hd58 (W5.inj h))]
     have h0:Sy s (i+1, -1):=⟨by show i+1≤_; omega,.inl ⟨rfl,fun j hj=>by
      by_cases hji:j=i
      ·rw[hji,Xs];intro h;have:=((pn s i).1 h).2;rw[hd]at this;exact hd58 (W5.inj this)
      ·exact hno j (by simp only at hj;omega)⟩⟩
     have h1:=hlt;have h2:xj s (i+1, -1)=xj s (i+1, -1):=rfl;have z3:jg=jg:=rfl;refine⟨[(18,.is (.int .i64 ((i+1:Nat):Int))),(20,.is (.int .i64 (s.length:Int))),(21,.is (.bool true)),(30,.bin (u8 c)),(31,.is (.bool true)),(35,.is (.int .i64 ((i+1:Nat):Int))),(36,.bin (u8 d)),(37,.is (.bool false)),(27,.is (.int .i64 ((i+1:Nat):Int)))],[],?_⟩;rw[eu hnx];exact W8 (by kernel_rfl) (Sx.t8 c18 c20 c21 c30 c31 xD xR c37 (Sx.t4 c27 h0 h1 h2 z3))
   ·have c31:WS ((c.toNat:Int)==58)=.bool false:=qa (by
     have:c.toNat≠58:=fun h=>hc58 (UInt8.toNat_inj.1 (by rw[h];rfl));simp;omega)
    have hnx:oG s (i, -1)=(i+1, -1):=by unfold oG; rw[if_neg (by rintro⟨h,_⟩; simp only at h; rw[hc]at h; exact hc58 (W5.inj h))]
    have h0:Sy s (i+1, -1):=⟨by show i+1≤_; omega,.inl ⟨rfl,fun j hj=>by
     by_cases hji:j=i
     ·rw[hji,Xs];intro h;have:=((pn s i).1 h).1;rw[hc]at this;exact hc58 (W5.inj this)
     ·exact hno j (by simp only at hj;omega)⟩⟩
    have h1:=hlt;have h2:xj s (i+1, -1)=xj s (i+1, -1):=rfl;have z3:jg=jg:=rfl;refine⟨[(18,.is (.int .i64 ((i+1:Nat):Int))),(20,.is (.int .i64 (s.length:Int))),(21,.is (.bool true)),(30,.bin (u8 c)),(31,.is (.bool false)),(27,.is (.int .i64 ((i+1:Nat):Int)))],[],?_⟩;rw[eu hnx];exact W8 (by kernel_rfl) (Sx.t8 c18 c20 c21 c30 c31 c27 h0 h1 (WO h2 z3))
  ·have c24:=bF (dd s < 0) (by omega)
   have h1:CZ s=CZ s:=rfl;have z2:jg=jg:=rfl;refine⟨[(18,.is (.int .i64 ((i+1:Nat):Int))),(20,.is (.int .i64 (s.length:Int))),(21,.is (.bool true)),(24,.is (.bool false))],[],?_⟩;exact W8 (by kernel_rfl) (Sx.t4 c18 c20 c21 c24 (Sx.t2 h0 h1 z2))
 ·have c21:=bF (((i+1:Nat):Int) < (s.length:Int)) (by omega)
  have ht:t=dd s:=by
   rcases hk with⟨rfl,hno⟩ | ⟨rfl,_⟩
   ·exact(P3 s fun j hj=>hno j (by omega)).symm
   ·rfl
  subst ht;have h1:CZ s=CZ s:=rfl;have z2:jg=jg:=rfl;refine⟨[(18,.is (.int .i64 ((i+1:Nat):Int))),(20,.is (.int .i64 (s.length:Int))),(21,.is (.bool false))],[],?_⟩;exact W8 (by kernel_rfl) (Sx.t4 c18 c20 c21 h0 (WO h1 z2))
def xL(F:Nat→Nat)(p:Nat)(l:List Nat)(k:Nat×(Nat→Nat)):Prop:=k.1≤l.length∧gU k.2 (p+k.1) (l.drop k.1)=F
def kH(p:Nat)(l:List Nat)(k:Nat×(Nat→Nat)):Nat×(Nat→Nat):=(k.1+1,ny k.2 (p+k.1) (l.getD k.1 0))
def mT(k:Nat×(Nat→Nat)):List (Nat×Sx.SV):=[(2,.ptr 0 0),(4,.ptr 1 0),(9,.own 2),(11,.own 3),(13,.val (.int .i64 (k.1:Int)))]
def mS(k:Nat×(Nat→Nat)):List (Nat×Sx.SV):=[(2,.ptr 0 0),(4,.ptr 1 0),(11,.own 3),(14,.val (.int .i64 (k.1:Int)))]
def dh(a b:List Nat)(f:Nat→Nat):List Sx.Row:=[⟨24,.aj NS⟩,U0 true f,⟨3,.own 1 a.length (ints a)⟩,⟨3,.own 1 b.length (ints b)⟩]
def An:List (Nat×Sx.SV):=[(2,.ptr 0 0),(4,.ptr 1 0),(11,.own 3)]
def Am:List (Nat×Sx.SV):=[(2,.ptr 0 0),(4,.ptr 1 0)]
theorem ints_at{l:List Nat}{i u:Nat}(h:l[i]?=some u):(ints l)[i]?=some (.int .i64 (u:Int)):=by unfold ints;rw[Xq,h];rfl
theorem FQ(v:Bool)(f:Nat→Nat)(k n:Nat)(hk:k < 16):0+1+((k:Int).toNat*1)+1≤(aw v f).length∧(aw v f).take (0+1+((k:Int).toNat*1))++([.int .u8 (n:Int)]++(aw v f).drop (0+1+((k:Int).toNat*1)+1))=aw v (de f k n):=by rw[Xb,Xm,Xl];exact⟨by rw[az];omega,xx v f k n hk⟩
theorem FV(a b:List Nat)(hla:a.length+b.length≤8)(hb:∀u∈a,u < 65536)(F:Nat→Nat)(T:Value)(w:World)(k:Nat×(Nat→Nat))(hk:xL F (0) a k):∃H' L',Sx.ex prog 144 w (Sx.bq f46 1) H' L' ⟨mT k,dh a b k.2⟩
  (Sx.dP (xL F (0) a) mT (fun k=>dh a b k.2) (kH (0) a) (fun q=>a.length+2 - q.1) (fun(_:Unit)=>True) (fun _=>An) (fun _=>dh a b F) (fun _=>()) (Sx.eo (Sx.bq f46 1) - 1) (Sx.atEnd prog f46 (fun u=>u=T) .ret) k):=by
 obtain⟨i,f⟩:=k;obtain⟨hi,hk⟩:=hk;simp only at hi hk;by_cases h:i < a.length
 ·obtain⟨u,hu⟩:∃u,a[i]?=some u:=⟨_,WR h⟩
  have hu65:=hb u (WZ hu);have hdrop:a.drop i=u::a.drop (i+1):=by rw[W0 h];have:=WR h;rw[hu]at this;rw[W5.inj this]
  rw[hdrop,gU]at hk;have hgd:a.getD i 0=u:=by rw[W6,hu];rfl
  have hnx:kH (0) a (i,f)=(i+1,ny f (0+i) u):=by unfold kH;rw[hgd]
  have cwr:∀x:Nat,x≤255→WU .u8 (Xe.wrap (x:Int))=.int .u8 (x:Int):=fun x hx=>iu (Rb (by omega) (by omega));have cix:(0:Int)≤(i:Int)∧(i:Int) < (a.length:Nat):=by omega
  have cld:(ints a)[(i:Int).toNat*1]?=some (.int .i64 (u:Int)):=by rw[Xb,Xm];exact ints_at hu
  have h1:a.length+2 - (i+1) < a.length+2 - i:=by omega
  have cq:WU .i64 (WX.wrap ((u:Int).tdiv 256))=.int .i64 ((u / 256:Nat):Int):=iw (by rw[show((u:Int).tdiv 256)=((u / 256:Nat):Int)by rw[Xg (by omega)]; rfl,jC (by omega) (by omega)]);have cm:WU .i64 ((u:Int).tmod 256)=.int .i64 ((u%256:Nat):Int):=iw (by rw[Xf (by omega)];rfl);have cd:=cwr (u / 256) (by omega);have ce:=cwr (u%256) (by omega);have cn:=mY (i:=i) (by omega);rw[Xl]at hk hnx;have c87:=bT ((i:Int) < (a.length:Int)) (by omega);have c91:WU .i64 (WX.wrap (2*(i:Int)))=.int .i64 ((2*i:Nat):Int):=iw (by rw[jC (by omega) (by omega)];omega);have c94:=cix;have c95:=cld;have c96:=cq;have c97:=cd;have c99:(0:Int)≤((2*i:Nat):Int)∧((2*i:Nat):Int) < 16:=by omega
  have c100099:=FQ true f (2*i) (u / 256) (by omega);have c101:=c91;have c102:WU .i64 (WX.wrap (((2*i:Nat):Int)+1))=.int .i64 ((2*i+1:Nat):Int):=iw (jC (by omega) (by omega));have c105:=cix;have c106:=cld;have c107:=cm;have c108:=ce;have c110:(0:Int)≤((2*i+1:Nat):Int)∧((2*i+1:Nat):Int) < 16:=by omega
  have c100110:=FQ true (de f (2*i) (u / 256)) (2*i+1) (u%256) (by omega);have c89:=cn;have h0:xL F 0 a (i+1,ny f i u):=⟨h,by show gU _ (0+(i+1)) _=F;rw[Xl];exact hk⟩;have h2:mT (i+1,ny f i u)=mT (i+1,ny f i u):=rfl;have z3:dh a b (ny f i u)=dh a b (ny f i u):=rfl;refine⟨[(87,.is (.bool true)),(91,.is (.int .i64 ((2*i:Nat):Int))),(94,.ix),(95,.ld (.int .i64 (u:Int))),(96,.is (.int .i64 ((u / 256:Nat):Int))),(97,.is (.int .u8 ((u / 256:Nat):Int))),(99,.ix),(100099,.st (aw true (de f (2*i) (u / 256)))),(101,.is (.int .i64 ((2*i:Nat):Int))),(102,.is (.int .i64 ((2*i+1:Nat):Int))),(105,.ix),(106,.ld (.int .i64 (u:Int))),(107,.is (.int .i64 ((u%256:Nat):Int))),(108,.is (.int .u8 ((u%256:Nat):Int))),(110,.ix),(100110,.st (aw true (ny f i u))),(89,.is (.int .i64 ((i+1:Nat):Int)))],[],?_⟩;rw[eu hnx];exact W8 (by kernel_rfl) (Sx.t8 c87 c91 c94 c95 c96 c97 c99 c100099 (Sx.t8 c101 c102 c105 c106 c107 c108 c110 c100110 (Sx.t4 c89 h0 h1 h2 z3)))
 ·have c87:=bF ((i:Int) < (a.length:Int)) (by omega)
  rw[Xi (by omega),gU]at hk;have h0:True:=trivial;have h1:An=An:=rfl;have z2:dh a b f=dh a b F:=by rw[hk]
  refine⟨[(87,.is (.bool false))],[],?_⟩;exact W8 (by kernel_rfl) (Sx.t2 c87 h0 (WO h1 z2))
theorem FU(a b:List Nat)(hla:a.length+b.length≤8)(hb:∀u∈b,u < 65536)(F:Nat→Nat)(T:Value)(w:World)(k:Nat×(Nat→Nat))(hk:xL F (8 - b.length) b k):∃H' L',Sx.ex prog 144 w (Sx.bq f46 2) H' L' ⟨mS k,dh a b k.2⟩
  (Sx.dP (xL F (8 - b.length) b) mS (fun k=>dh a b k.2) (kH (8 - b.length) b) (fun q=>b.length+2 - q.1) (fun(_:Unit)=>True) (fun _=>Am) (fun _=>dh a b F) (fun _=>()) (Sx.eo (Sx.bq f46 2) - 1) (Sx.atEnd prog f46 (fun u=>u=T) .ret) k):=by
 obtain⟨i,f⟩:=k;obtain⟨hi,hk⟩:=hk;simp only at hi hk;by_cases h:i < b.length
 ·obtain⟨u,hu⟩:∃u,b[i]?=some u:=⟨_,WR h⟩
  have hu65:=hb u (WZ hu);have hdrop:b.drop i=u::b.drop (i+1):=by rw[W0 h];have:=WR h;rw[hu]at this;rw[W5.inj this]
  rw[hdrop,gU]at hk;have hgd:b.getD i 0=u:=by rw[W6,hu];rfl
  have hnx:kH (8 - b.length) b (i,f)=(i+1,ny f (8 - b.length+i) u):=by unfold kH; rw[hgd]
  have cwr:∀x:Nat,x≤255→WU .u8 (Xe.wrap (x:Int))=.int .u8 (x:Int):=fun x hx=>iu (Rb (by omega) (by omega));have cix:(0:Int)≤(i:Int)∧(i:Int) < (b.length:Nat):=by omega
  have cld:(ints b)[(i:Int).toNat*1]?=some (.int .i64 (u:Int)):=by rw[Xb,Xm];exact ints_at hu
  have h1:b.length+2 - (i+1) < b.length+2 - i:=by omega
  have cq:WU .i64 (WX.wrap ((u:Int).tdiv 256))=.int .i64 ((u / 256:Nat):Int):=iw (by rw[show((u:Int).tdiv 256)=((u / 256:Nat):Int)by rw[Xg (by omega)]; rfl,jC (by omega) (by omega)]);have cm:WU .i64 ((u:Int).tmod 256)=.int .i64 ((u%256:Nat):Int):=iw (by rw[Xf (by omega)];rfl);have cd:=cwr (u / 256) (by omega);have ce:=cwr (u%256) (by omega);have cn:=mY (i:=i) (by omega);have c114:=bT ((i:Int) < (b.length:Int)) (by omega);have c119:WU .i64 (WX.wrap (8 - (b.length:Int)))=.int .i64 ((8 - b.length:Nat):Int):=iw (by rw[jC (by omega) (by omega)]; omega);generalize hp:8 - b.length=p at *;have c121:WU .i64 (WX.wrap ((p:Int)+(i:Int)))=.int .i64 ((p+i:Nat):Int):=iw (by rw[jC (by omega) (by omega)];omega);generalize hq:p+i=q at*;have hq8:q < 8:=by omega
  have c123:WU .i64 (WX.wrap (2*(q:Int)))=.int .i64 ((2*q:Nat):Int):=iw (by rw[jC (by omega) (by omega)];omega);have c126:=cix;have c127:=cld;have c128:=cq;have c129:=cd;have c131:(0:Int)≤((2*q:Nat):Int)∧((2*q:Nat):Int) < 16:=by omega
  have c100131:=FQ true f (2*q) (u / 256) (by omega);have c133:=c123;have c134:WU .i64 (WX.wrap (((2*q:Nat):Int)+1))=.int .i64 ((2*q+1:Nat):Int):=iw (jC (by omega) (by omega));have c137:=cix;have c138:=cld;have c139:=cm;have c140:=ce;have c142:(0:Int)≤((2*q+1:Nat):Int)∧((2*q+1:Nat):Int) < 16:=by omega
  have c100142:=FQ true (de f (2*q) (u / 256)) (2*q+1) (u%256) (by omega);have c116:=cn;have h0:xL F p b (i+1,ny f q u):=⟨h,by show gU _ (p+(i+1)) _=F;rw[←Nat.add_assoc,hq];exact hk⟩;have h2:mS (i+1,ny f q u)=mS (i+1,ny f q u):=rfl;have z3:dh a b (ny f q u)=dh a b (ny f q u):=rfl;refine⟨[(114,.is (.bool true)),(119,.is (.int .i64 (p:Int))),(121,.is (.int .i64 (q:Int))),(123,.is (.int .i64 ((2*q:Nat):Int))),(126,.ix),(127,.ld (.int .i64 (u:Int))),(128,.is (.int .i64 ((u / 256:Nat):Int))),(129,.is (.int .u8 ((u / 256:Nat):Int))),(131,.ix),(100131,.st (aw true (de f (2*q) (u / 256)))),(133,.is (.int .i64 ((2*q:Nat):Int))),(134,.is (.int .i64 ((2*q+1:Nat):Int))),(137,.ix),(138,.ld (.int .i64 (u:Int))),(139,.is (.int .i64 ((u%256:Nat):Int))),(140,.is (.int .u8 ((u%256:Nat):Int))),(142,.ix),(100142,.st (aw true (ny f q u))),(116,.is (.int .i64 ((i+1:Nat):Int)))],[],?_⟩;rw[eu hnx];exact W8 (by kernel_rfl) (Sx.t8 c114 c119 c121 c123 c126 c127 c128 c129 (Sx.t8 c131 c100131 c133 c134 c137 c138 c139 c140 (Sx.t4 c142 c100142 c116 h0 (Sx.t2 h1 h2 z3))))
 ·have c114:=bF ((i:Int) < (b.length:Int)) (by omega)
  rw[Xi (by omega),gU]at hk;have h0:True:=trivial;have h1:Am=Am:=rfl;have z2:dh a b f=dh a b F:=by rw[hk]
  refine⟨[(114,.is (.bool false))],[],?_⟩;exact W8 (by kernel_rfl) (Sx.t2 c114 h0 (WO h1 z2))
theorem gT{s:List UInt8}{l:List Nat}(h:ik s=some l)(hs:s.length≤100000000)(w:World):Calls prog 100 #[.string ⟨s.toArray⟩] w (Sx.dM w (.nu [] 3 1 l.length (ints l) [.bool true])):=by have:=yu s hs w;rwa [h]at this
theorem jF{s:List UInt8}(h:ik s=none)(hs:s.length≤100000000)(w:World):Calls prog 100 #[.string ⟨s.toArray⟩] w (Sx.dM w (.val (.tuple #[.slice none 0 0,.bool false]))):=by have:=yu s hs w;rwa [h]at this
def MZ:Sx.gA:=.val (.tuple #[.slice none 0 0,.bool false])
def iW(s:List UInt8)(a b:List Nat):List Sx.Loop:=
 [.mk (Nat×Int) (0, -1) (Sy s) (xj s) (fun _=>jg) (oG s) (fun q=>s.length+2 - q.1) Unit (fun _=>True) (fun _=>CZ s) (fun _=>jg) (fun _=>()),
  .mk (Nat×(Nat→Nat)) (0,fun _=>0) (xL (gU (fun _=>0) 0 a) 0 a) mT (fun k=>dh a b k.2) (kH 0 a) (fun q=>a.length+2 - q.1) Unit (fun _=>True) (fun _=>An) (fun _=>dh a b (gU (fun _=>0) 0 a)) (fun _=>()),
  .mk (Nat×(Nat→Nat)) (0,gU (fun _=>0) 0 a) (xL (uX a b) (8 - b.length) b) mS (fun k=>dh a b k.2) (kH (8 - b.length) b) (fun q=>b.length+2 - q.1) Unit (fun _=>True) (fun _=>Am) (fun _=>dh a b (uX a b)) (fun _=>())]
theorem QF(s:List UInt8)(hs:s.length≤100000000)(w:World):Calls prog 46 #[.string ⟨s.toArray⟩] w (Rn w (xG (pK s))):=by
 have h0:Sy s (0, -1):=⟨Xa _,.inl ⟨rfl,fun j hj=>by simp at hj⟩⟩;have e1:xj s (0, -1)=xj s (0, -1)∧jg=jg:=⟨rfl,rfl⟩;have jz:=Oc s (xG (pK s)) w hs;have bad:∀{l r:List UInt8} {fnd:Bool},Lib.cut s [58,58]=(l,r,fnd)→ss l r fnd=(fun _=>0,false)→Xx #[.agg (aw true fun _=>0).toArray,.bool false]=xG (pK s):=fun h1 h2=>by unfold pK;rw[h1,h2];rfl
 have wD:∀{l r:List UInt8} {fnd:Bool} {a b:List Nat},Lib.cut s [58,58]=(l,r,fnd)→ss l r fnd=(uX a b,true)→Xx #[.agg (aw true (uX a b)).toArray,.bool true]=xG (pK s):=fun h1 h2=>by unfold pK;rw[h1,h2];rfl
 have l2:∀a b:List Nat,xL (gU (fun _=>0) 0 a) 0 a (0,fun _=>0):=fun a b=>⟨Xa _,rfl⟩;have l3:∀a b:List Nat,xL (uX a b) (8 - b.length) b (0,gU (fun _=>0) 0 a):=fun a b=>⟨Xa _,rfl⟩;by_cases hd:dd s < 0
 ·have hcut:Lib.cut s [58,58]=(s,[],false):=by unfold Lib.cut;rw[if_neg (by unfold dd at hd;omega)]
  have uh:=bF (dd s≥0) (by omega);have c68:=bT (dd s < 0) (by omega);have c57:=fun W (_:ai [] w W)=>gT po (by simp) W;cases ha:ik s with
  |none=>have c52:=fun W (_:ai [] w W)=>jF ha hs W;have z5:=bad hcut (by unfold ss;rw[ha]);refine Sx.ao (args:=[.string ⟨s.toArray⟩]) [(42,.is (.bool false)),(52,.bS MZ),(57,.bS (.nu [] 3 1 0 [] [.bool true]))] (iW s [] []) (by kernel_rfl) func46 rfl (bU rfl) ?_;exact W8 (by kernel_rfl) (Sx.t2 h0 e1 (WO jz (fun(x:Unit) (hx4:True)=>(Sx.t2 uh c52 (WO c57 z5)))))
  |some a=>
   obtain⟨ha65,ha8⟩:=oq ha;have c52:=fun W (_:ai [] w W)=>gT ha hs W;by_cases h8:a.length=8
   ·have c72:WS ((a.length:Int) !=8)=.bool false:=qa (by simp;omega)
    have c80:WU .i64 (WX.wrap ((a.length:Int)+0))=.int .i64 (a.length:Int):=iw (by rw[jC (by omega) (by omega)];omega);have c81:=bF ((a.length:Int) > 8) (by omega);have z15:=wD hcut (a:=a) (b:=[]) (by unfold ss;rw[ha,po];simp only;rw[if_neg (by simp;omega)]);have h5:=l2 a [];have h10:=l3 a [];have rd7:=FV a [] (by simp;omega) (ha65) (gU (fun _=>0) 0 a) (xG (pK s)) w;have rd12:=FU a [] (by simp;omega) (by simp) (uX a []) (xG (pK s)) w;have e6:mT (0,fun _=>0)=mT (0,fun _=>0)∧dh a [] (fun _=>0)=dh a [] (fun _=>0):=⟨rfl,rfl⟩;have e11:mS (0,gU (fun _=>0) 0 a)=mS (0,gU (fun _=>0) 0 a)∧dh a [] (gU (fun _=>0) 0 a)=dh a [] (gU (fun _=>0) 0 a):=⟨rfl,rfl⟩;refine Sx.ao (args:=[.string ⟨s.toArray⟩]) [(42,.is (.bool false)),(52,.bS (.nu [] 3 1 a.length (ints a) [.bool true])),(57,.bS (.nu [] 3 1 0 [] [.bool true])),(68,.is (.bool true)),(72,.is (.bool false)),(80,.is (.int .i64 (a.length:Int))),(81,.is (.bool false))] (iW s a []) (by kernel_rfl) func46 rfl (bU rfl) ?_;exact W8 (by kernel_rfl) (Sx.t2 h0 e1 (WO jz (fun(x:Unit) (hx4:True)=>(Sx.t8 uh c52 c57 c68 c72 c80 c81 h5 (Sx.t2 e6 rd7 (fun(x:Unit) (hx9:True)=>(Sx.t2 h10 e11 (WO rd12 (fun(x:Unit) (hx14:True)=>z15)))))))))
   ·have c72:WS ((a.length:Int) !=8)=.bool true:=qI (by simp;omega)
    have z5:=bad hcut (by unfold ss;rw[ha,po];simp only;rw[if_pos (.inl ⟨trivial,h8⟩)]);refine Sx.ao (args:=[.string ⟨s.toArray⟩]) [(42,.is (.bool false)),(52,.bS (.nu [] 3 1 a.length (ints a) [.bool true])),(57,.bS (.nu [] 3 1 0 [] [.bool true])),(68,.is (.bool true)),(72,.is (.bool true))] (iW s a []) (by kernel_rfl) func46 rfl (bU rfl) ?_;exact W8 (by kernel_rfl) (Sx.t2 h0 e1 (WO jz (fun(x:Unit) (hx4:True)=>(Sx.t4 uh c52 c57 c68 (WO c72 z5)))))
 ·obtain⟨p,hp⟩:∃p:Nat,dd s=p:=⟨(dd s).toNat,by omega⟩
  have hp2:p+2≤s.length:=by
   rcases Lib.index_spec s [58,58]with⟨h1,_⟩ | ⟨i,h1,_,h3,_⟩
   ·unfold dd at hd;omega
   ·have h4:=(pn s i).1 h3
    have:=(WQ.1 h4.2).1;unfold dd at hp;omega
  have hcut:Lib.cut s [58,58]=(s.take p,s.drop (p+2),true):=by unfold dd at hp;unfold Lib.cut;rw[if_pos (by omega),hp];rfl
  have uh:=bT (dd s≥0) (by omega);have c68:=bF (dd s < 0) (by omega);have c45:∀W,(W4 9 (.string ⟨s.toArray⟩) none (some (.int .i64 (dd s))) none).run prog W=.ok (.string ⟨(s.take p).toArray⟩) W:=fun W=>by rw[hp];exact uU s p (by omega) W
  have c48:WU .i64 (WX.wrap (dd s+2))=.int .i64 ((p+2:Nat):Int):=iw (by rw[hp,jC (by omega) (by omega)];rfl);have c49:=uV s (p+2) hp2;have hsl:(s.take p).length≤100000000:=by rw[List.length_take];omega
  have hsr:(s.drop (p+2)).length≤100000000:=by rw[List.length_drop];omega
  cases ha:ik (s.take p)with
  |none=>
   have c52:=fun W (_:ai [] w W)=>jF ha hsl W;have z5:=bad hcut (by unfold ss;rw[ha]);cases hb:ik (s.drop (p+2))with
   |none=>have c57:=fun W (_:ai [] w W)=>jF hb hsr W;refine Sx.ao (args:=[.string ⟨s.toArray⟩]) [(42,.is (.bool true)),(45,.bin (.string ⟨(s.take p).toArray⟩)),(48,.is (.int .i64 ((p+2:Nat):Int))),(49,.bin (.string ⟨(s.drop (p+2)).toArray⟩)),(52,.bS MZ),(57,.bS MZ)] (iW s [] []) (by kernel_rfl) func46 rfl (bU rfl) ?_;exact W8 (by kernel_rfl) (Sx.t2 h0 e1 (WO jz (fun(x:Unit) (hx4:True)=>(Sx.t4 uh c45 c48 c49 (Sx.t2 c52 c57 z5)))))
   |some b=>have c57:=fun W (_:ai [] w W)=>gT hb hsr W;refine Sx.ao (args:=[.string ⟨s.toArray⟩]) [(42,.is (.bool true)),(45,.bin (.string ⟨(s.take p).toArray⟩)),(48,.is (.int .i64 ((p+2:Nat):Int))),(49,.bin (.string ⟨(s.drop (p+2)).toArray⟩)),(52,.bS MZ),(57,.bS (.nu [] 3 1 b.length (ints b) [.bool true]))] (iW s [] []) (by kernel_rfl) func46 rfl (bU rfl) ?_;exact W8 (by kernel_rfl) (Sx.t2 h0 e1 (WO jz (fun(x:Unit) (hx4:True)=>(Sx.t4 uh c45 c48 c49 (Sx.t2 c52 c57 z5)))))
  |some a=>
   obtain⟨ha65,ha8⟩:=oq ha;have c52:=fun W (_:ai [] w W)=>gT ha hsl W;cases hb:ik (s.drop (p+2))with
   |none=>have z5:=bad hcut (by unfold ss;rw[ha,hb]);have c57:=fun W (_:ai [] w W)=>jF hb hsr W;refine Sx.ao (args:=[.string ⟨s.toArray⟩]) [(42,.is (.bool true)),(45,.bin (.string ⟨(s.take p).toArray⟩)),(48,.is (.int .i64 ((p+2:Nat):Int))),(49,.bin (.string ⟨(s.drop (p+2)).toArray⟩)),(52,.bS (.nu [] 3 1 a.length (ints a) [.bool true])),(57,.bS MZ)] (iW s [] []) (by kernel_rfl) func46 rfl (bU rfl) ?_;exact W8 (by kernel_rfl) (Sx.t2 h0 e1 (WO jz (fun(x:Unit) (hx4:True)=>(Sx.t4 uh c45 c48 c49 (Sx.t2 c52 c57 z5)))))
   |some b=>
    obtain⟨hb65,hb8⟩:=oq hb;have c57:=fun W (_:ai [] w W)=>gT hb hsr W;have c80:WU .i64 (WX.wrap ((a.length:Int)+(b.length:Int)))=.int .i64 ((a.length+b.length:Nat):Int):=iw (by rw[jC (by omega) (by omega)];rfl);by_cases h8:8 < a.length+b.length
    ·have c81:=bT (((a.length+b.length:Nat):Int) > 8) (by omega)
     have z5:=bad hcut (by unfold ss;rw[ha,hb];simp only;rw[if_pos (.inr h8)]);refine Sx.ao (args:=[.string ⟨s.toArray⟩]) [(42,.is (.bool true)),(45,.bin (.string ⟨(s.take p).toArray⟩)),(48,.is (.int .i64 ((p+2:Nat):Int))),(49,.bin (.string ⟨(s.drop (p+2)).toArray⟩)),(52,.bS (.nu [] 3 1 a.length (ints a) [.bool true])),(57,.bS (.nu [] 3 1 b.length (ints b) [.bool true])),(68,.is (.bool false)),(80,.is (.int .i64 ((a.length+b.length:Nat):Int))),(81,.is (.bool true))] (iW s [] []) (by kernel_rfl) func46 rfl (bU rfl) ?_;exact W8 (by kernel_rfl) (Sx.t2 h0 e1 (WO jz (fun(x:Unit) (hx4:True)=>(Sx.t8 uh c45 c48 c49 c52 c57 c68 c80 (WO c81 z5)))))
    ·have c81:=bF (((a.length+b.length:Nat):Int) > 8) (by omega)
     have z15:=wD hcut (a:=a) (b:=b) (by unfold ss;rw[ha,hb];simp only;rw[if_neg (by simp;omega)]);have h5:=l2 a b;have h10:=l3 a b;have rd7:=FV a b (by omega) (ha65) (gU (fun _=>0) 0 a) (xG (pK s)) w;have rd12:=FU a b (by omega) (hb65) (uX a b) (xG (pK s)) w;have e6:mT (0,fun _=>0)=mT (0,fun _=>0)∧dh a b (fun _=>0)=dh a b (fun _=>0):=⟨rfl,rfl⟩;have e11:mS (0,gU (fun _=>0) 0 a)=mS (0,gU (fun _=>0) 0 a)∧dh a b (gU (fun _=>0) 0 a)=dh a b (gU (fun _=>0) 0 a):=⟨rfl,rfl⟩;refine Sx.ao (args:=[.string ⟨s.toArray⟩]) [(42,.is (.bool true)),(45,.bin (.string ⟨(s.take p).toArray⟩)),(48,.is (.int .i64 ((p+2:Nat):Int))),(49,.bin (.string ⟨(s.drop (p+2)).toArray⟩)),(52,.bS (.nu [] 3 1 a.length (ints a) [.bool true])),(57,.bS (.nu [] 3 1 b.length (ints b) [.bool true])),(68,.is (.bool false)),(80,.is (.int .i64 ((a.length+b.length:Nat):Int))),(81,.is (.bool false))] (iW s a b) (by kernel_rfl) func46 rfl (bU rfl) ?_;exact W8 (by kernel_rfl) (Sx.t2 h0 e1 (WO jz (fun(x:Unit) (hx4:True)=>(Sx.t8 uh c45 c48 c49 c52 c57 c68 c80 (Sx.t4 c81 h5 e6 rd7 (fun(x:Unit) (hx9:True)=>(Sx.t2 h10 e11 (WO rd12 (fun(x:Unit) (hx14:True)=>z15)))))))))
open Go Go.RowKit Go.Lib Go.Sort
theorem rG{p:Nat→Prop}(h:∃m,p m):∃m,p m∧∀m',p m'→m≤m':=by
 obtain⟨m,hm⟩:=h;induction m using Nat.strongRecOn with
 |_ m ih=>
  by_cases hx:∃m',m' < m∧p m'
  ·obtain⟨m',h1,h2⟩:=hx
   exact ih m' h1 h2
  ·exact⟨m,hm,fun m' h'=>Nat.le_of_not_lt fun hlt=>hx ⟨m',hlt,h'⟩⟩
theorem uK{P:Program}{Q:Exit→Act→World→Prop}{a:Act}{w:World}{c rest:Code}(l:Nat)(J:Nat→Act→World→Prop)(hf:findLabel c l=some rest)
  (first:c.wp P (Exit.jump l (fun a w=>∃m,J m a w) Q) a w)
  (pass:∀m a w,J m a w→rest.wp P (Exit.jump l (fun a' w'=>∃m',m' < m∧J m' a' w') Q) a w):(Code.scope c).wp P Q a w:=by
 classical
 let μ:Act→World→Nat:=fun a w=>if h:∃m,J m a w then(rG h).choose else 0
 have hμ:∀a w m,J m a w→μ a w≤m∧J (μ a w) a w:=fun a w m hm=>by have h:∃m,J m a w:=⟨m,hm⟩;have e:μ a w=(rG h).choose:=dif_pos h;rw[e];exact⟨(rG h).choose_spec.2 m hm,(rG h).choose_spec.1⟩
 refine wp_scope_jumps l (fun a w=>∃m,J m a w) μ hf first fun a w ⟨m,hm⟩=>?_
 refine Code.wp_mono (fun e a' w' hq=>?_) (pass (μ a w) a w (hμ a w m hm).2);cases e with
 |goto l'=>obtain⟨he,m',hlt,hj⟩:=hq;exact⟨he,⟨m',hj⟩,Nat.lt_of_le_of_lt (hμ a' w' m' hj).1 hlt⟩
 |normal=>exact hq
 |exit id=>exact hq
 |ret=>exact hq
 |panic ch=>exact hq
 |outgrown=>exact hq
namespace Sx
def Cr{κ:Type}(l:Nat)(R:κ→Prop)(fr:κ→List (Nat×SV))(mem:κ→List Row)(M:Prop)(k:κ)(K:Exit→St→Prop):Exit→St→Prop
 |.goto l',st=>match Nat.beq l' l with
  |true=>M∧R k∧AY st (fr k) (mem k)
  |false=>cE st
 |e,st=>K e st
def Py(c:Code)(l:Nat):Code:=(findLabel c l).getD .skip
def FY:Code→Code
 |.seq _ (.scope c)=>c
 |_=>.skip
def Sj:Code→Code
 |.seq a _=>a
 |_=>.skip
section
variable{P:Program}{w0:aV}{ds:List Deferred}{n:Nat}
theorem yG{κ:Type}{l:Nat}{R:κ→Prop}{fr:κ→List (Nat×SV)}{mem:κ→List Row}{M:Prop}{k:κ}{K:Exit→St→Prop}{e:Exit}{a:Act}{w:World}{J:Act→World→Prop}
  (h:lift ds w0 n (Cr l R fr mem M k K) e a w) (hJ:∀β,M→R k→Hd ds w0 n β ⟨fr k,mem k⟩ a w→J a w):Exit.jump l J (lift ds w0 n K) e a w:=by
 cases e with
 |goto l'=>
  obtain⟨β,st,hk,h'⟩:=h;simp only[Cr]at hk;split at hk
  ·rename_i hb
   obtain⟨hm,hr,hs⟩:=hk;obtain⟨β2,h2⟩:=h'.same hs;exact⟨Nat.eq_of_beq_eq_true hb,hJ β2 hm hr h2⟩
  ·exact nomatch hk
 |normal=>exact h
 |exit id=>exact h
 |ret=>exact h
 |panic ch=>exact h
 |outgrown=>exact h
theorem Fl{w:World}{f:FuncId}{fn:Func}{a0 c rest:Code}{S:List Nat}{PP:List PanicEntry→World→Prop}{β:Env}{mem:List Row}{args:List SV}{R:List SV→List Row→Prop}(hF:Rows ⟨w,S,PP⟩ β w mem)
  {κ:Type} (l:Nat) (k0:κ) (Rk:κ→Prop) (frk:κ→List (Nat×SV)) (memk:κ→List Row) (next:κ→κ) (μ:κ→Nat)
  (H0 H:List (Nat×Hint)) (L:List Loop) (hm:P.follows .mixedOrders=true) (hf:P.funcs[f]?=some fn) (hb:fn.body=some (.seq a0 (.scope c))) (hl:findLabel c l=some rest) (hn:args.length≤fn.ntmps) (hw:(eA (fun r=>jK mem.length r.cs) mem&&eA (xF mem.length) args)=true)
  (pass:∀k,Rk k→∃H' L',ky P fn.ntmps ⟨w,S,PP⟩ rest H' L' ⟨frk k,memk k⟩ (Cr l Rk frk memk (μ (next k) < μ k) (next k) (fM P fn R)))
  (first:ky P fn.ntmps ⟨w,S,PP⟩ a0 H0 [] ⟨mf 0 args,mem⟩ (fun e st=>match e with | .normal=>ky P fn.ntmps ⟨w,S,PP⟩ c H L st (Cr l Rk frk memk True k0 (fM P fn R))|_=>False)) :
  Calls P f (args.map (SV.den β)).toArray w (dc ⟨w,S,PP⟩ R):=by
 rw[Xc]at hw;have start:Hd [] ⟨w,S,PP⟩ fn.ntmps β ⟨mf 0 args,mem⟩ { tmps:=(args.map (SV.den β)).toArray++Xd (fn.ntmps - (args.map (SV.den β)).toArray.size) undef,defers:=[] } w:=by
  refine⟨by simp;omega,rfl,fun t sv ht=>?_,hF.held,hF.new,hF.inj,hF.aF,fun t sv ht=>?_,fun i r hi=>?_⟩
  ·obtain⟨_,hv⟩:=gu ht
   have hlt:t < args.length:=(WQ.1 hv).1;rw[Array.getElem?_append_left (by simpa using hlt)];simp only[Nat.sub_zero]at hv;simp[hv]
  ·obtain⟨_,hv⟩:=gu ht
   exact mw (aU hw.2 sv (WZ hv))
  ·exact iH (aU hw.1 r (WZ hi))
 refine calls_of_wp hf hb ?_;refine wp_seq (Code.wp_mono (fun e a' w' hq=>?_) (gy hm a0 H0 [] _ _ β _ w start first));cases e with
 |normal=>
  obtain⟨β',st',hk,h'⟩:=hq;have main:(Code.scope c).wp P (lift [] ⟨w,S,PP⟩ fn.ntmps (fM P fn R)) a' w':=by
   refine uK l (fun m a w'=>∃β k,μ k=m∧Rk k∧Hd [] ⟨w,S,PP⟩ fn.ntmps β ⟨frk k,memk k⟩ a w') hl ?_ ?_
   ·exact Code.wp_mono (fun e a2 w2 hq=>yG hq fun β2 _ hr h2=>⟨μ k0,β2,k0,rfl,hr,h2⟩) (gy hm c H L st' _ β' a' w' h' hk)
   ·rintro m a2 w2 ⟨β2,k,rfl,hr,h2⟩
    obtain⟨H',L',hp⟩:=pass k hr;exact Code.wp_mono (fun e a3 w3 hq=>yG hq fun β3 hlt hr3 h3=>⟨μ (next k),hlt,β3,next k,rfl,hr3,h3⟩) (gy hm rest H' L' _ _ β2 a2 w2 h2 hp)
  exact Code.wp_mono (fun e a w hq=>y7 hq) main
 |exit id=>obtain⟨_,_,hk,_⟩:=hq;exact hk.elim
 |goto l=>obtain⟨_,_,hk,_⟩:=hq;exact hk.elim
 |ret=>obtain⟨_,_,hk,_⟩:=hq;exact hk.elim
 |panic ch=>exact⟨hq.1,.inr ⟨ch,rfl,hq.2⟩⟩
 |outgrown=>obtain⟨_,_,hk,_⟩:=hq;exact hk.elim
end
end Sx
set_option maxRecDepth 100000
open Go.RowKit Go.Lib Go.Sort _root_.Go.Proofs.Tryz
set_option maxRecDepth 100000
def nG(s:Bs)(cm:Bool)(i:Nat):List (Nat×Sx.SV):=[(0,.val (ae s)),(1,.val (.bool cm)),(5,.own 0),(6,.val (.int .i64 (i:Int)))]
def FK(s:Bs)(cm:Bool)(o i:Nat):List (Nat×Sx.SV):=[(0,.val (ae s)),(1,.val (.bool cm)),(5,.own o),(6,.val (.int .i64 (i:Int)))]
def lA(s:Bs)(cm:Bool)(b i:Nat):List (Nat×Sx.SV):=(7,.val (.int .i64 (b:Int)))::nG s cm i
def df(acc:List Bs):List Sx.Row:=[⟨9,.own 1 acc.length (acc.map ae)⟩]
theorem oL{c:UInt8}{k:Nat}(d:UInt8)(hd:d.toNat=k):WS ((c.toNat:Int)==(k:Int))=.bool (decide (c=d)):=by congr 1;rw[Bool.eq_iff_iff,beq_iff_eq,decide_eq_true_iff,←UInt8.toNat_inj,hd];omega
theorem MM{c:UInt8}{k:Nat}(d:UInt8)(hd:d.toNat=k):WS ((c.toNat:Int) !=(k:Int))=.bool (!decide (c=d)):=by have h:=oL (c:=c) d hd;injection h with h;show WS (!((c.toNat:Int)==(k:Int)))=_;rw[h]
theorem sr(s:Bs)(lo hi:Nat)(h:lo≤hi)(h2:hi≤s.length)(W:World):(W4 9 (ae s) (some (.int .i64 (lo:Int))) (some (.int .i64 (hi:Int))) none).run prog W=.ok (ae ((s.take hi).drop lo)) W:=by have:=yb ⟨s.toArray⟩ lo hi h (by simpa[ByteArray.size]using h2) W;rw[AH]at this;exact this
theorem Ks(p:UInt8→Bool){s:Bs}{i j:Nat}(hi:i≤s.length)(hj:i≤j∧j≤runN p s i):∃c,(decide (j < s.length)=true→s[j]?=some c)∧(decide (j < s.length)&&p c)=decide (j+1≤runN p s i):=by
 have hle:=mG p s i hi;by_cases hlt:j < runN p s i
 ·obtain⟨c,hc,hp⟩:=Ot hj.1 hlt
  exact⟨c,fun _=>hc,by rw[hp,decide_eq_true (show j < s.length by omega),decide_eq_true (show j+1≤runN p s i by omega)];rfl⟩
 ·have he:runN p s i=j:=by omega
  by_cases hl:j < s.length
  ·obtain⟨c,hc,hp⟩:=Bz hi (by omega:runN p s i < s.length)
   rw[he]at hc;exact⟨c,fun _=>hc,by rw[hp,Bool.and_false,decide_eq_false (by omega)]⟩
  ·exact⟨0,fun h=>absurd (of_decide_eq_true h) hl,by rw[decide_eq_false hl,decide_eq_false (by omega)];rfl⟩
theorem Qy{PP:List PanicEntry→World→Prop}(w:World)(s:Bs)(cm:Bool)(hs:s.length≤100000000)(i:Nat)(hi:i≤s.length)(acc:List Bs)(Kr:Sx.St→Prop)(j:Nat)(hj:i≤j∧j≤runN sB s i) :
  ∃H' L',Sx.ky prog f90.ntmps ⟨w,[],PP⟩ (Sx.bq f90 0) H' L' ⟨nG s cm j,df acc⟩ (Sx.dP (fun j=>i≤j∧j≤runN sB s i) (nG s cm) (fun _=>df acc) (fun j=>j+1) (fun j=>s.length+1 - j) (fun(_:Unit)=>True) (fun _=>nG s cm (runN sB s i)) (fun _=>df acc) (fun _=>()) (Sx.eo (Sx.bq f90 0) - 1) Kr j):=by
 have hle:=mG sB s i hi;obtain⟨c,hc,st⟩:=Ks sB hi hj;obtain⟨e,hre⟩:∃e,runN sB s i=e:=⟨_,rfl⟩;rw[hre]at hj hle st ⊢;have c10:=iY s;have gb:WS (decide ((j:Int) < (s.length:Int)))=.bool (decide (j < s.length)):=uz rfl;have jM:WS ((c.toNat:Int)==32)=.bool (c==32):=oL 32 rfl;have c21:WS ((c.toNat:Int)==9)=.bool (c==9):=oL 9 rfl;have c25:=mY (i:=j) (by omega);unfold sB at st;have c15:=fun h=>lF s j c (hc h);generalize decide (j < s.length)=z at*;generalize (c==32)=n1 at*;generalize (c==9)=n2 at*;have hs':(z&&(n1||n2))=true→((i≤j+1∧j+1≤e)∧s.length+1 - (j+1) < s.length+1 - j∧nG s cm (j+1)=nG s cm (j+1)∧df acc=df acc):=fun h=>by rw[st,decide_eq_true_eq]at h;exact⟨⟨by omega,h⟩,by omega,rfl,rfl⟩
 have he:(z&&(n1||n2))=false→True∧nG s cm j=nG s cm e∧df acc=df acc:=fun h=>by rw[st,decide_eq_false_iff_not]at h;rw[show j=e by omega];exact⟨trivial,rfl,rfl⟩
 have CH:=Sx.t2 c10 gb (cy.mk (b:=!z) (fun h=>c15 (by cases z;cases h;rfl)) (cy.mk (b:=!z) (fun _=>jM) (cy.mk (b:=!z||n1) (fun h=>c15 (by cases z;cases h;rfl)) (cy.mk (b:=!z||n1) (fun _=>c21) (kz.mk (b:=z&&(n1||n2)) (fun h=>WO c25 (hs' h)) he)))));refine⟨[(10,.is (.int .i64 (s.length:Int))),(11,.is (.bool z)),(15,.bin (u8 c)),(16,.is (.bool n1)),(20,.bin (u8 c)),(21,.is (.bool n2)),(25,.is (.int .i64 ((j+1:Nat):Int)))],[],?_⟩;clear hs' he st c15 hc;cases z<;>cases n1<;>cases n2<;>exact W8 (by kernel_rfl) CH
theorem Qx{PP:List PanicEntry→World→Prop}(w:World)(s:Bs)(cm:Bool)(hs:s.length≤100000000)(i:Nat)(hi:i≤s.length)(acc:List Bs)(Kr:Sx.St→Prop)(j:Nat)(hj:i≤j∧j≤runN (wC cm) s i) :
  ∃H' L',Sx.ky prog f90.ntmps ⟨w,[],PP⟩ (Sx.bq f90 1) H' L' ⟨lA s cm i j,df acc⟩ (Sx.dP (fun j=>i≤j∧j≤runN (wC cm) s i) (lA s cm i) (fun _=>df acc) (fun j=>j+1) (fun j=>s.length+1 - j) (fun(_:Unit)=>True) (fun _=>lA s cm i (runN (wC cm) s i)) (fun _=>df acc) (fun _=>()) (Sx.eo (Sx.bq f90 1) - 1) Kr j):=by
 have hle:=mG (wC cm) s i hi;obtain⟨c,hc,st⟩:=Ks (wC cm) hi hj;have Fm:=iY s;have c44:WS (decide ((j:Int) < (s.length:Int)))=.bool (decide (j < s.length)):=uz rfl;have c49:WS ((c.toNat:Int) !=32)=.bool (!(c==32)):=MM 32 rfl;have c55:WS ((c.toNat:Int) !=9)=.bool (!(c==9)):=MM 9 rfl;have c63:WS ((c.toNat:Int)==35)=.bool (c==35):=oL 35 rfl;have c68:=mY (i:=j) (by omega);have c48:=fun h=>lF s j c (hc h);obtain⟨e,hre⟩:∃e,runN (wC cm) s i=e:=⟨_,rfl⟩;rw[hre]at hj hle st ⊢;unfold wC sB at st;generalize decide (j < s.length)=z at*;generalize (c==32)=n1 at*;generalize (c==9)=n2 at*;generalize (c==35)=n3 at*;have hs':(z&&(!(n1||n2)&&!(cm&&n3)))=true→((i≤j+1∧j+1≤e)∧s.length+1 - (j+1) < s.length+1 - j∧lA s cm i (j+1)=lA s cm i (j+1)∧df acc=df acc):=fun h=>by rw[st,decide_eq_true_eq]at h;exact⟨⟨by omega,h⟩,by omega,rfl,rfl⟩
 have he:(z&&(!(n1||n2)&&!(cm&&n3)))=false→True∧lA s cm i j=lA s cm i e∧df acc=df acc:=fun h=>by rw[st,decide_eq_false_iff_not]at h;rw[show j=e by omega];exact⟨trivial,rfl,rfl⟩
 have CH:=Sx.t2 Fm c44 (cy.mk (b:=!z) (fun h=>c48 (by cases z;cases h;rfl)) (cy.mk (b:=!z) (fun _=>c49) (cy.mk (b:=!z||n1) (fun h=>c48 (by cases z;cases h;rfl)) (cy.mk (b:=!z||n1) (fun _=>c55) (cy.mk (b:=!z||n1||n2||!cm) (fun h=>c48 (by cases z;cases h;rfl)) (cy.mk (b:=!z||n1||n2||!cm) (fun _=>c63) (kz.mk (b:=z&&(!(n1||n2)&&!(cm&&n3))) (fun h=>WO c68 (hs' h)) he)))))));refine⟨[(43,.is (.int .i64 (s.length:Int))),(44,.is (.bool z)),(48,.bin (u8 c)),(49,.is (.bool !n1)),(54,.bin (u8 c)),(55,.is (.bool !n2)),(62,.bin (u8 c)),(63,.is (.bool n3)),(68,.is (.int .i64 ((j+1:Nat):Int)))],[],?_⟩;clear hs' he st c48 hc hj hre;cases z<;>cases n1<;>cases n2<;>cases cm<;>cases n3<;>exact W8 (by kernel_rfl) CH
def gH(s:Bs)(cm:Bool)(k:Nat×List Bs):Nat×List Bs:=(runN (wC cm) s (runN sB s k.1),k.2++[(s.take (runN (wC cm) s (runN sB s k.1))).drop (runN sB s k.1)])
def S7(s:Bs)(cm:Bool)(k:Nat×List Bs):Prop:=k.1≤s.length∧k.2.length≤k.1∧k.2++lC cm s k.1=lC cm s 0
def N0(s:Bs)(cm:Bool)(l:List Sx.SV)(mem:List Sx.Row):Prop:=∃j,l=[.own j]∧mem[j]?=some ⟨9,.own 1 (aE cm s).length ((aE cm s).map ae)⟩
def Tm(s:Bs)(cm:Bool)(i:Nat)(acc:List Bs):Sx.Loop:=.mk Nat i (fun j=>i≤j∧j≤runN sB s i) (nG s cm) (fun _=>df acc) (fun j=>j+1) (fun j=>s.length+1 - j) Unit (fun _=>True) (fun _=>nG s cm (runN sB s i)) (fun _=>df acc) (fun _=>())
def Tl(s:Bs)(cm:Bool)(i:Nat)(acc:List Bs):Sx.Loop:=.mk Nat i (fun j=>i≤j∧j≤runN (wC cm) s i) (lA s cm i) (fun _=>df acc) (fun j=>j+1) (fun j=>s.length+1 - j) Unit (fun _=>True) (fun _=>lA s cm i (runN (wC cm) s i)) (fun _=>df acc) (fun _=>())
noncomputable def JU:Code:=Sx.Py (Sx.FY (f90.body.getD .skip)) 0
structure WE(s:Bs)(cm:Bool)(k:Nat×List Bs)(c:UInt8)(z zc:Bool):Prop where
 nr:WS ((runN sB s k.1:Int)==(s.length:Int))=.bool z
 xD:z=false→∀W:World,(Instr.index 9 (.string ⟨s.toArray⟩) (.int .i64 (runN sB s k.1:Int))).run prog W=.ok (u8 c) W
 xR:WS ((c.toNat:Int)==35)=.bool zc
 fin:(z||(cm&&zc))=true→N0 s cm [.own 0] (df k.2)
 nx:(z||(cm&&zc))=false→S7 s cm (gH s cm k)∧s.length - (gH s cm k).1 < s.length - k.1
 qT:k.2.length≤1100000
 el:runN (wC cm) s (runN sB s k.1)≤s.length
theorem Ba(s:Bs)(cm:Bool)(hs:s.length≤1100000)(k:Nat×List Bs)(hk:S7 s cm k):∃c z zc,WE s cm k c z zc:=by
 have hi:=hk.1;have hbl:=mG sB s k.1 hi;have hsk:=DQ cm s k.1;have hge:=mJ sB s k.1;have hel:=mG (wC cm) s (runN sB s k.1) hbl;have qT:k.2.length≤1100000:=by have:=hk.2.1;omega
 have hfin:lC cm s (runN sB s k.1)=[]→N0 s cm [.own 0] (df k.2):=fun h=>by have:=hk.2.2;rw[hsk,h,List.append_nil]at this;exact⟨0,rfl,by rw[show aE cm s=k.2 from this.symm];rfl⟩
 by_cases hend:runN sB s k.1 < s.length
 ·obtain⟨c,hc,hp⟩:=Bz hi hend
  refine⟨c,false,_,qa (by rw[beq_eq_false_iff_ne];omega),fun _=>lF s _ c hc,oL 35 rfl,fun h=>hfin ?_,fun h=>?_,qT,hel⟩
  ·rw[Xw,Xc,decide_eq_true_eq]at h
   rw[h.1];exact DR s _ (by rw[hc,h.2])
  ·have hw:wC cm c=true:=by
    unfold wC;rw[hp,show(c==35)=decide (c=35)from rfl];rw[Xw]at h;rw[h];rfl
   have hwd:=DP cm s (runN sB s k.1) hc hw;have hgt:=Kt hc hw;refine⟨⟨hel,?_,?_⟩,by show s.length - runN (wC cm) s (runN sB s k.1) < _; omega⟩
   ·have:=hk.2.1
    simp only[gH,Xn,Xj];omega
   ·have:=hk.2.2
    rw[hsk,hwd]at this;rw[←this];simp[gH]
 ·have hb:runN sB s k.1=s.length:=by omega
  exact⟨0,true,_,qI (by rw[hb];simp),fun h=>(by cases h),oL 35 rfl,fun _=>hfin (by rw[hb];exact Ha _ _),fun h=>(by cases h),qT,hel⟩
theorem NY{PP:List PanicEntry→World→Prop}(w:World)(s:Bs)(cm:Bool)(hs:s.length≤1100000)(k:Nat×List Bs)(hk:S7 s cm k) :
  ∃H' L',Sx.ky prog f90.ntmps ⟨w,[],PP⟩ JU H' L' ⟨nG s cm k.1,df k.2⟩ (Sx.Cr 0 (S7 s cm) (fun k=>nG s cm k.1) (fun k=>df k.2) (s.length - (gH s cm k).1 < s.length - k.1) (gH s cm k) (Sx.fM prog f90 (N0 s cm))):=by
 have hi:=hk.1;have hs':s.length≤100000000:=by omega
 obtain⟨c,z,zc,nr,xD,xR,fin,nx,qT,el⟩:=Ba s cm hs k hk;have c73:=sr s (runN sB s k.1) (runN (wC cm) s (runN sB s k.1)) (mJ _ _ _) el;have c75:=qL (cells:=[ae ((s.take (runN (wC cm) s (runN sB s k.1))).drop (runN sB s k.1))]) (size:=1) (len:=k.2.length) (B:=bytesOf 9) (by kernel_rfl) (by kernel_rfl) qT (by decide+kernel);have wn:FK s cm 2 (runN (wC cm) s (runN sB s k.1))=FK s cm 2 (gH s cm k).1∧[(⟨9,.own 1 (k.2.length+1) (k.2.map ae++[ae ((s.take (runN (wC cm) s (runN sB s k.1))).drop (runN sB s k.1))])⟩:Sx.Row)]=df (gH s cm k).2:=⟨rfl,by simp[df,gH]⟩;have jz:=Qy (PP:=PP) w s cm hs' k.1 hi k.2 (Sx.fM prog f90 (N0 s cm) .ret);have rd7:=Qx (PP:=PP) w s cm hs' (runN sB s k.1) (mG _ _ _ hi) k.2 (Sx.fM prog f90 (N0 s cm) .ret);have CH:=Sx.t2 (WO (W3 k.1) (mJ sB s k.1)) (show nG s cm k.1=nG s cm k.1∧df k.2=df k.2 from⟨rfl,rfl⟩) (WO jz (fun(_:Unit) (_:True)=>Sx.t2 (iY s) nr (cy.mk (b:=z||!cm) (fun h=>xD (by cases z;rfl;cases h)) (cy.mk (b:=z||!cm) (fun _=>xR) (kz.mk (b:=z||(cm&&zc)) fin (fun h=>Sx.t2 (WO (W3 (runN sB s k.1)) (mJ (wC cm) s (runN sB s k.1))) (show lA s cm (runN sB s k.1) (runN sB s k.1)=lA s cm (runN sB s k.1) (runN sB s k.1)∧df k.2=df k.2 from⟨rfl,rfl⟩) (WO rd7 (fun(_:Unit) (_:True)=>WO c73 (WO c75 (WO (nx h).2 (WO (nx h).1 wn)))))))))));refine⟨[(28,.is (.int .i64 (s.length:Int))),(29,.is (.bool z)),(35,.bin (u8 c)),(36,.is (.bool zc)),(73,.bin (ae ((s.take (runN (wC cm) s (runN sB s k.1))).drop (runN sB s k.1))))],[Tm s cm k.1 k.2,Tl s cm (runN sB s k.1) k.2],?_⟩;clear wn nr xD xR fin nx qT el jz rd7 c73 c75;cases z<;>cases cm<;>cases zc<;>exact W8 (by kernel_rfl) CH
def SU(s:Bs)(cm:Bool)(w:World)(e:Ending)(w':World):Prop:=∃(A:Option Go.Addr) (cc:Nat),e=.returned (.slice A (aE cm s).length cc)∧Own w' 9 1 (.slice A (aE cm s).length cc) (aE cm s).length ((aE cm s).map ae)∧(∀k,A.map (·.block)=some k→w.heap.size≤k)∧ai [] w w'
theorem FG(w:World)(s:Bs)(cm:Bool)(hs:s.length≤1100000):Calls prog 90 #[ae s,.bool cm] w (SU s cm w):=by
 have key:Calls prog 90 #[ae s,.bool cm] w (Sx.dc ⟨w,[],fun _ _=>False⟩ (N0 s cm)):=by
  have hF:=Sx.gM (w:=w) (S:=[]) (PP:=fun _ _=>False) (G:=[]) (fun q hq=>by cases hq) (fun q hq=>by cases hq) (by simp);have hk:S7 s cm (0,[]):=⟨Xa _,W3 _,rfl⟩;have first:=Sx.Fl (args:=[.val (ae s),.val (.bool cm)]) hF 0 (gH s cm (0,[])) (S7 s cm) (fun k=>nG s cm k.1) (fun k=>df k.2) (gH s cm) (fun k=>s.length - k.1) [] (P:=prog) (fn:=f90) (a0:=Sx.Sj (f90.body.getD .skip)) (c:=Sx.FY (f90.body.getD .skip)) (f:=90) (rest:=JU) (R:=N0 s cm)
  have hs':s.length≤100000000:=by omega
  replace first:=fun H L hx=>first H L (by kernel_rfl) func90 rfl (by kernel_rfl) (bU rfl) rfl (NY w s cm hs) hx
  obtain⟨c,z,zc,nr,xD,xR,fin,nx,qT,el⟩:=Ba s cm hs _ hk;have hi:=hk.1;have c73:=sr s (runN sB s 0) (runN (wC cm) s (runN sB s 0)) (mJ _ _ _) el;have c75:=qL (cells:=[ae ((s.take (runN (wC cm) s (runN sB s 0))).drop (runN sB s 0))]) (size:=1) (len:=([]:List Bs).length) (B:=bytesOf 9) (by kernel_rfl) (by kernel_rfl) qT (by decide+kernel);have wn:FK s cm 2 (runN (wC cm) s (runN sB s 0))=FK s cm 2 (gH s cm (0,[])).1∧[(⟨9,.own 1 (([]:List Bs).length+1) (([]:List Bs).map ae++[ae ((s.take (runN (wC cm) s (runN sB s 0))).drop (runN sB s 0))])⟩:Sx.Row)]=df (gH s cm (0,[])).2:=⟨rfl,by simp[df,gH]⟩;have jz:=Qy (PP:=fun _ _=>False) w s cm hs' 0 hi [] (Sx.fM prog f90 (N0 s cm) .ret);have rd7:=Qx (PP:=fun _ _=>False) w s cm hs' (runN sB s 0) (mG _ _ _ hi) [] (Sx.fM prog f90 (N0 s cm) .ret);have CH:=Sx.t2 (WO (W3 0) (mJ sB s 0)) (show nG s cm 0=nG s cm 0∧df []=df []from⟨rfl,rfl⟩) (WO jz (fun(_:Unit) (_:True)=>Sx.t2 (iY s) nr (cy.mk (b:=z||!cm) (fun h=>xD (by cases z;rfl;cases h)) (cy.mk (b:=z||!cm) (fun _=>xR) (kz.mk (b:=z||(cm&&zc)) fin (fun h=>Sx.t2 (WO (W3 (runN sB s 0)) (mJ (wC cm) s (runN sB s 0))) (show lA s cm (runN sB s 0) (runN sB s 0)=lA s cm (runN sB s 0) (runN sB s 0)∧df []=df []from⟨rfl,rfl⟩) (WO rd7 (fun(_:Unit) (_:True)=>WO c73 (WO c75 (WO trivial (WO (nx h).1 wn)))))))))));refine first [(5,.jq 9 1),(28,.is (.int .i64 (s.length:Int))),(29,.is (.bool z)),(35,.bin (u8 c)),(36,.is (.bool zc)),(73,.bin (ae ((s.take (runN (wC cm) s (runN sB s 0))).drop (runN sB s 0))))] [Tm s cm 0 [],Tl s cm (runN sB s 0) []] ?_
  clear wn nr xD xR fin nx qT el jz rd7 c73 c75 first
  cases z<;>cases cm<;>cases zc<;>exact W8 (by kernel_rfl) CH
 refine key.mono fun e w' hp=>?_;rcases hp with⟨β,l,mem,⟨j,rfl,hm⟩,he,hR⟩ | ⟨_,_,hf,_⟩
 ·have h0:β.n j=(aE cm s).length∧Own w' 9 1 (.slice (β.a j) (aE cm s).length (β.c j)) (aE cm s).length ((aE cm s).map ae):=hR.held j _ hm
  refine⟨β.a j,β.c j,?_,h0.2,fun k hk=>?_,hR.aF⟩
  ·rw[he]
   show Ending.returned (.slice (β.a j) (β.n j) (β.c j))=_;rw[h0.1]
  ·rcases hR.new j _ k hm hk with hx|hx
   ·cases hx
   ·exact hx
 ·exact hf.elim
set_option maxRecDepth 100000
open Go.RowKit Go.Lib Go.Sort _root_.Go.Proofs.Tryz
set_option maxRecDepth 100000
theorem mn(cm:Bool):∀(l cur:Bs),(a7 cm cur l).length≤l.length+(if cur=[] then 0 else 1)∧∀x∈a7 cm cur l,x.length≤cur.length+l.length
 | [],cur=>by
  unfold a7;by_cases h:cur=[]
  ·simp[h]
  ·simp[h]
 |c::l,cur=>by
  unfold a7;have h0:=mn cm l [];have h1:=mn cm l (cur++[c]);rw[if_neg (by simp:¬cur++[c]=[])]at h1;rw[if_pos rfl]at h0;simp only[Xn,Xj,List.length_nil]at h0 h1;split
  ·by_cases h:cur=[]
   ·simp[h]
   ·rw[if_neg h]
    refine⟨by simp[h],fun x hx=>?_⟩;rw[WV.1 hx];simp
  ·split
   ·by_cases h:cur=[]
    ·rw[if_pos h]
     refine⟨by simp[h];omega,fun x hx=>?_⟩;have:=h0.2 x hx;simp[h];omega
    ·rw[if_neg h]
     refine⟨by simp[h];omega,fun x hx=>?_⟩;rcases WY.1 hx with rfl|hx
     ·omega
     ·have:=h0.2 x hx;simp;omega
   ·refine⟨by have:=h1.1;simp;split<;>omega,fun x hx=>?_⟩
    have:=h1.2 x hx;simp;omega
theorem s7(cm:Bool)(s:Bs):(aE cm s).length≤s.length∧∀x∈aE cm s,x.length≤s.length:=by have:=mn cm s [];simpa[aE]using this
theorem yU(N:Nat)(w:World):Calls prog 92 #[.iface 103 (.pointer (some ⟨N,0,none⟩))] w fun e w'=>e=.returned (.iface 103 (.pointer (some ⟨N,0,none⟩)))∧w'=w:=by
 have hta:∀w,(Instr.typeAssert (.iface 103 (.pointer (some ⟨N,0,none⟩))) 20 103 true).run prog w=.ok (.tuple #[.pointer (some ⟨N,0,none⟩),.bool true]) w:=fun w=>by kernel_rfl
 go_enter func92,ntmps92
 go_wp2
 go_ret
 exact⟨rfl,rfl⟩
theorem Jr(p:Go.Addr)(N:Nat)(older:List PanicEntry)(w:World)(hc:w.cell? p=some .nilIface)(hz:w.frozen? p=false) :
  CallsD prog 130 #[.pointer (some p)] (.panicking ({ v:=.iface 103 (.pointer (some ⟨N,0,none⟩)),recovered:=false }::older)) w fun e u' w'=>e=.returned (.tuple #[])∧u'=.panicking ({ v:=.iface 103 (.pointer (some ⟨N,0,none⟩)),recovered:=true }::older)∧w'=w.setCell p (.iface 103 (.pointer (some ⟨N,0,none⟩))):=by
 refine callsD_of_wpS func130 rfl fun c₀ cs hu=>?_;apply wpS_seq;apply wpS_region;simp[wpOpsS,go_sem,recoverD,hu,ntmps130,Exit.thenS];apply wpS_seq;apply wpS_region;simp[wpOpsS,go_sem,Exit.thenS];refine wpS_cond (t:=true) (by simp[Act.eval,Xd]) ?_;simp only[if_true];refine wpS_of_wp ?_;go_wp2_with (go_at_call 92;refine(yU N _).mono ?_;rintro e w2 ⟨rfl,rfl⟩)
 cases c₀;simp_all[bodyPostS,results,results130]
theorem Di(p:Go.Addr)(w:World) :
  CallsD prog 130 #[.pointer (some p)] .returning w fun e u' w'=>e=.returned (.tuple #[])∧u'=.returning∧w'=w:=by
 refine callsD_of_wpS func130 rfl fun c₀ cs hu=>?_;apply wpS_seq;apply wpS_region;simp[wpOpsS,go_sem,recoverD,hu,ntmps130,Exit.thenS];apply wpS_seq;apply wpS_region;simp[wpOpsS,go_sem,Exit.thenS];refine wpS_cond (t:=false) (by simp[Act.eval,Xd]) ?_;simp only[Bool.false_eq_true,if_false];refine wpS_of_wp (wp_skip ?_);cases c₀;simp_all[bodyPostS,results,results130]
open Go.RowKit Go.Lib Go.Sort
def cL(gc gd:Nat)(s:gG):List Nat:=[some gc,some gd,s.p.A.map (·.block),s.r.A.map (·.block),s.l.A.map (·.block),s.m.A.map (·.block),s.i.A.map (·.block)].filterMap id
theorem jb(g gc gd:Nat)(s:gG):Cz g gc gd s=g::cL gc gd s:=rfl
structure U9(w:World)(gc gd:Nat)(cf:CF)(d:Nat)(s:gG):Prop where
 at_:qR w gc cf s
 bd:aq w gd 3 [.int .i64 (d:Int)]
 nd:(cL gc gd s).Nodup
 qT:cf.ak.length≤1100000∧cf.af.length≤1100000∧cf.rules.length≤1100000∧cf.ag.length≤1100000∧cf.ab.length≤1100000
 Vi:d≤1100000
 uB:dO w
 s9:∀k∈cL gc gd s,9≤k
theorem ek{gc gd:Nat}{s:gG}{k:Nat}:k∈cL gc gd s↔k=gc∨k=gd∨s.p.A.map (·.block)=some k∨s.r.A.map (·.block)=some k∨s.l.A.map (·.block)=some k∨s.m.A.map (·.block)=some k∨s.i.A.map (·.block)=some k:=by
 unfold cL;simp only[WN,WY,Xt,or_false,id_eq];constructor
 ·rintro⟨o,ho,hk⟩
  subst hk;rcases ho with h|h|h|h|h|h|h
  ·injection h with h;exact .inl h
  ·injection h with h;exact .inr (.inl h)
  ·exact .inr (.inr (.inl h.symm))
  ·exact .inr (.inr (.inr (.inl h.symm)))
  ·exact .inr (.inr (.inr (.inr (.inl h.symm))))
  ·exact .inr (.inr (.inr (.inr (.inr (.inl h.symm)))))
  ·exact .inr (.inr (.inr (.inr (.inr (.inr h.symm)))))
 ·rintro(rfl|rfl|h|h|h|h|h)
  ·exact⟨_,.inl rfl,rfl⟩
  ·exact⟨_,.inr (.inl rfl),rfl⟩
  ·exact⟨_,.inr (.inr (.inl rfl)),h⟩
  ·exact⟨_,.inr (.inr (.inr (.inl rfl))),h⟩
  ·exact⟨_,.inr (.inr (.inr (.inr (.inl rfl)))),h⟩
  ·exact⟨_,.inr (.inr (.inr (.inr (.inr (.inl rfl))))),h⟩
  ·exact⟨_,.inr (.inr (.inr (.inr (.inr (.inr rfl))))),h⟩
theorem dW(A:Option Go.Addr)(n c:Nat):(Value.slice A n c).ownBlock=A.map (·.block):=by cases A<;>rfl
theorem qR.lt{w:World}{gc gd:Nat}{cf:CF}{d:Nat}{s:gG}(h:qR w gc cf s)(hb:aq w gd 3 [.int .i64 (d:Int)]):∀k∈cL gc gd s,k < w.heap.size:=fun k hk=>by
 rcases ek.1 hk with rfl|rfl|hk|hk|hk|hk|hk
 ·exact h.bO.lt
 ·exact hb.lt
 ·exact h.p.lt k ((dW _ _ _).trans hk)
 ·exact h.r.lt k ((dW _ _ _).trans hk)
 ·exact h.l.lt k ((dW _ _ _).trans hk)
 ·exact h.m.lt k ((dW _ _ _).trans hk)
 ·exact h.i.lt k ((dW _ _ _).trans hk)
theorem qR.aF{w w':World}{gc gd:Nat}{cf:CF}{s:gG}(h:qR w gc cf s){S:List Nat}(hc:ai S w w')(hS:∀k∈cL gc gd s,k∉S):qR w' gc cf s:=
 ⟨h.bO.aF hc (hS _ (ek.2 (.inl rfl))),h.p.aF hc fun k hk=>hS k (ek.2 (.inr (.inr (.inl ((dW _ _ _).symm.trans hk))))),h.r.aF hc fun k hk=>hS k (ek.2 (.inr (.inr (.inr (.inl ((dW _ _ _).symm.trans hk)))))),
  h.l.aF hc fun k hk=>hS k (ek.2 (.inr (.inr (.inr (.inr (.inl ((dW _ _ _).symm.trans hk))))))),h.m.aF hc fun k hk=>hS k (ek.2 (.inr (.inr (.inr (.inr (.inr (.inl ((dW _ _ _).symm.trans hk)))))))),h.i.aF hc fun k hk=>hS k (ek.2 (.inr (.inr (.inr (.inr (.inr (.inr ((dW _ _ _).symm.trans hk)))))))) ⟩
def AZ(l:Bs)(gc gd:Nat)(cf:CF)(d:Nat)(s:gG)(w:World)(e:Ending)(w':World):Prop:=
 (∃cf' i s',fm (aE true l) cf d=.ok cf' i∧e=.returned .nilIface∧qR w' gc cf' s'∧aq w' gd 3 [.int .i64 (dN (aE true l) d:Nat)]∧(cL gc gd s').Nodup∧(∀k∈cL gc gd s',k∈cL gc gd s∨w.heap.size≤k)∧ai (cL gc gd s) w w')∨
 (∃code p N:Nat,fm (aE true l) cf d=.no code p∧e=.returned (.iface 103 ((pt N 0)))∧w.heap.size≤N∧aq w' N 105 [.int .i64 (code:Int),.int .i64 (p:Int)]∧ai (cL gc gd s) w w')
theorem zd{w w':World}{A:Option Go.Addr}{n c:Nat}{ws:List Bs}{S:List Nat}(h:Own w 9 1 (.slice A n c) n (ws.map ae))(hl:ws.length=n)(hc:ai [] w w')(hS:∀k,A.map (·.block)=some k→k∉S):A8 w' S A n ws:=by
 refine⟨hl,fun h0=>?_⟩;rcases h.2 with⟨hv,h1⟩ | ⟨g,o,c',L,hv,hg,hn,hcm,hL,hx⟩
 ·omega
 ·injection hv with h1 h2 h3
  subst h1;refine⟨g,o,rfl,hS g rfl,Nat.lt_of_lt_of_le hg.lt hc.size,fun j x hj=>?_⟩;have hg':=hg.aF hc (by simp);have hjn:j < n:=by rw[←hl];exact(WQ.1 hj).1
  refine hg'.cell_of ?_;have e1:((L.drop o).take (n*1))[j]?=some (ae x):=by rw[hx,Xq,hj];rfl
  rw[List.getElem?_take,if_pos (by omega),Xo]at e1;exact e1
def fq(tg:Option Nat)(cs:List Sx.SV):Sx.Row:=match tg with
 |some g=>⟨46,.ji g cs⟩
 |none=>⟨46,.dC cs⟩
def lZ(tg:Option Nat)(d:Nat):Sx.Row:=match tg with
 |some g=>⟨3,.cR g [.int .i64 (d:Int)]⟩
 |none=>⟨3,.aj [.int .i64 (d:Int)]⟩
def jB(k0 k1 k2 k3 k4:Nat)(cf:CF):List Sx.SV:=[.own k0,.own k1,.own k2,.own k3,.own k4,.val (.int .i64 cf.bA)]
structure A7(row:Nat→Option Sx.Row)(tc:Option Nat)(rd:Sx.Row)(kc kd k0 k1 k2 k3 k4:Nat)(cf:CF):Prop where
 c:row kc=some (fq tc (jB k0 k1 k2 k3 k4 cf))
 d:row kd=some rd
 p:row k0=some ⟨3,.own 1 cf.ak.length cf.cp⟩
 r:row k1=some ⟨118,.own 19 cf.af.length cf.cr⟩
 l:row k2=some ⟨81,.own 49 cf.rules.length cf.cl⟩
 m:row k3=some ⟨122,.own 4 cf.ag.length cf.cm⟩
 i:row k4=some ⟨124,.own 3 cf.ab.length cf.ci⟩
abbrev xB(row:Nat→Option Sx.Row)(tc td:Option Nat)(kc kd k0 k1 k2 k3 k4:Nat)(cf:CF)(d:Nat):Prop:=A7 row tc (lZ td d) kc kd k0 k1 k2 k3 k4 cf
def lG(β:Sx.Env)(k0 k1 k2 k3 k4:Nat):gG:=⟨⟨β.a k0,β.c k0⟩,⟨β.a k1,β.c k1⟩,⟨β.a k2,β.c k2⟩,⟨β.a k3,β.c k3⟩,⟨β.a k4,β.c k4⟩⟩
theorem Jk{β:Sx.Env}{W:World}{tc:Option Nat}{kc:Nat}{cs:List Sx.SV}(h:Sx.aZ β W kc (fq tc cs)):aq W (β kc) 46 (cs.map (Sx.SV.den β))∧∀g,tc=some g→β kc=g:=by
 cases tc with
 |some g=>exact⟨h.2,fun g' hg=>by cases hg;exact h.1⟩
 |none=>exact⟨h,fun g hg=>by cases hg⟩
theorem I4{β:Sx.Env}{W:World}{tc:Option Nat}{kc:Nat}{cs:List Sx.SV}(h:aq W (β kc) 46 (cs.map (Sx.SV.den β)))(ht:∀g,tc=some g→β kc=g):Sx.aZ β W kc (fq tc cs):=by
 cases tc with
 |some g=>exact⟨ht g rfl,h⟩
 |none=>exact h
theorem PI{β:Sx.Env}{W:World}{td:Option Nat}{kd d:Nat}(h:Sx.aZ β W kd (lZ td d)):aq W (β kd) 3 [.int .i64 (d:Int)]∧∀g,td=some g→β kd=g:=by
 cases td with
 |some g=>exact⟨h.2,fun g' hg=>by cases hg;exact h.1⟩
 |none=>exact⟨h,fun g hg=>by cases hg⟩
theorem PD{β:Sx.Env}{W:World}{td:Option Nat}{kd d:Nat}(h:aq W (β kd) 3 [.int .i64 (d:Int)])(ht:∀g,td=some g→β kd=g):Sx.aZ β W kd (lZ td d):=by
 cases td with
 |some g=>exact⟨ht g rfl,h⟩
 |none=>exact h
theorem xl{β:Sx.Env}{tc:Option Nat}{kc:Nat}{cs:List Sx.SV}:Sx.aB β kc (fq tc cs)=some (β kc):=by cases tc<;>rfl
theorem EW{β:Sx.Env}{td:Option Nat}{kd d:Nat}:Sx.aB β kd (lZ td d)=some (β kd):=by cases td<;>rfl
def Vl(β:Sx.Env)(kc kd k0 k1 k2 k3 k4:Nat):List (Nat×Option Nat):=[(kc,some (β kc)),(kd,some (β kd)),(k0,(β.a k0).map (·.block)),(k1,(β.a k1).map (·.block)),(k2,(β.a k2).map (·.block)),(k3,(β.a k3).map (·.block)),(k4,(β.a k4).map (·.block))]
theorem P8{b:Sx.aV}{β:Sx.Env}{W:World}{row:Nat→Option Sx.Row}{gw:List Nat}{tc:Option Nat}{rd:Sx.Row}{kc kd k0 k1 k2 k3 k4:Nat}{cf:CF}(hS:Sx.eM b β W row gw)(h:A7 row tc rd kc kd k0 k1 k2 k3 k4 cf)(hrd:Sx.aB β kd rd=some (β kd))(hs:∀k∈[kc,kd,k0,k1,k2,k3,k4],k∈gw)(hn:[kc,kd,k0,k1,k2,k3,k4].Nodup) :
  qR W (β kc) cf (lG β k0 k1 k2 k3 k4)∧(cL (β kc) (β kd) (lG β k0 k1 k2 k3 k4)).Nodup∧(∀k∈cL (β kc) (β kd) (lG β k0 k1 k2 k3 k4),k∈b.S∨b.w.heap.size≤k):=by
 have c:=Jk (hS.held kc (hs _ (by simp)) _ h.c);have p:β.n k0=cf.ak.length∧Own W 3 1 (.slice (β.a k0) cf.ak.length (β.c k0)) cf.ak.length cf.cp:=hS.held k0 (hs _ (by simp)) _ h.p;have r:β.n k1=cf.af.length∧Own W 118 19 (.slice (β.a k1) cf.af.length (β.c k1)) cf.af.length cf.cr:=hS.held k1 (hs _ (by simp)) _ h.r;have l:β.n k2=cf.rules.length∧Own W 81 49 (.slice (β.a k2) cf.rules.length (β.c k2)) cf.rules.length cf.cl:=hS.held k2 (hs _ (by simp)) _ h.l;have m:β.n k3=cf.ag.length∧Own W 122 4 (.slice (β.a k3) cf.ag.length (β.c k3)) cf.ag.length cf.cm:=hS.held k3 (hs _ (by simp)) _ h.m;have i:β.n k4=cf.ab.length∧Own W 124 3 (.slice (β.a k4) cf.ab.length (β.c k4)) cf.ab.length cf.ci:=hS.held k4 (hs _ (by simp)) _ h.i;have hb:aq W (β kc) 46 [.slice (β.a k0) cf.ak.length (β.c k0),.slice (β.a k1) cf.af.length (β.c k1),.slice (β.a k2) cf.rules.length (β.c k2),.slice (β.a k3) cf.ag.length (β.c k3),.slice (β.a k4) cf.ab.length (β.c k4),.int .i64 cf.bA]:=by have:=c.1;have hh:(jB k0 k1 k2 k3 k4 cf).map (Sx.SV.den β)=[β.sl k0,β.sl k1,β.sl k2,β.sl k3,β.sl k4,.int .i64 cf.bA]:=rfl;rw[hh]at this;unfold Sx.Env.sl at this;rw[p.1,r.1,l.1,m.1,i.1]at this;exact this
 have rows:∀x∈Vl β kc kd k0 k1 k2 k3 k4,∀k,x.2=some k→x.1∈gw∧∃r,row x.1=some r∧Sx.aB β x.1 r=some k:=by
  intro x hx k hk;simp only[Vl,WY,Xt,or_false]at hx;rcases hx with rfl|rfl|rfl|rfl|rfl|rfl|rfl
  ·exact⟨hs _ (by simp),_,h.c,xl.trans hk⟩
  ·exact⟨hs _ (by simp),_,h.d,hrd.trans hk⟩
  ·exact⟨hs _ (by simp),_,h.p,hk⟩
  ·exact⟨hs _ (by simp),_,h.r,hk⟩
  ·exact⟨hs _ (by simp),_,h.l,hk⟩
  ·exact⟨hs _ (by simp),_,h.m,hk⟩
  ·exact⟨hs _ (by simp),_,h.i,hk⟩
 have nd:∀(l:List (Nat×Option Nat)),(l.map (·.1)).Nodup→(∀x∈l,∀k,x.2=some k→x.1∈gw∧∃r,row x.1=some r∧Sx.aB β x.1 r=some k)→((l.map (·.2)).filterMap id).Nodup:=by
  intro l;induction l with
  |nil=>intro _ _;simp
  |cons x l ih=>
   intro hn hr;rw[Xh,WT]at hn;have ih:=ih hn.2 fun y hy=>hr y (WW _ hy);cases hx:x.2 with
   |none=>simpa[hx]using ih
   |some k=>
    have e:((x::l).map (·.2)).filterMap id=k::(l.map (·.2)).filterMap id:=by simp[hx]
    rw[e,WT];refine⟨fun hk=>?_,ih⟩;obtain⟨o,ho,hok⟩:=WN.1 hk;obtain⟨y,hy,rfl⟩:=W9.1 ho;obtain⟨s1,r1,h1,h2⟩:=hr x (by simp) k hx;obtain⟨s2,r2,h3,h4⟩:=hr y (WW _ hy) k hok;have:=hS.inj _ s1 _ s2 _ _ _ h1 h3 h2 h4;exact hn.1 (W9.2 ⟨y,hy,this.symm⟩)
 refine⟨⟨hb,p.2,r.2,l.2,m.2,i.2⟩,nd (Vl β kc kd k0 k1 k2 k3 k4) hn rows,fun k hk=>?_⟩;obtain⟨o,ho,hok⟩:=WN.1 hk;have hm:o∈(Vl β kc kd k0 k1 k2 k3 k4).map (·.2):=ho;obtain⟨x,hx,rfl⟩:=W9.1 hm;obtain⟨hsee,r,hr,hbk⟩:=rows x hx k hok;exact hS.new x.1 hsee r k hr hbk
theorem MG{b:Sx.aV}{β:Sx.Env}{W:World}{row:Nat→Option Sx.Row}{gw:List Nat}{tc td:Option Nat}{kc kd k0 k1 k2 k3 k4:Nat}{cf:CF}{d:Nat}(hS:Sx.eM b β W row gw)(h:xB row tc td kc kd k0 k1 k2 k3 k4 cf d)(hs:∀k∈[kc,kd,k0,k1,k2,k3,k4],k∈gw)(hn:[kc,kd,k0,k1,k2,k3,k4].Nodup) :
  qR W (β kc) cf (lG β k0 k1 k2 k3 k4)∧aq W (β kd) 3 [.int .i64 (d:Int)]∧(cL (β kc) (β kd) (lG β k0 k1 k2 k3 k4)).Nodup∧(∀k∈cL (β kc) (β kd) (lG β k0 k1 k2 k3 k4),k∈b.S∨b.w.heap.size≤k):=
 let ⟨a,c,e⟩:=P8 hS h EW hs hn
 ⟨a,(PI (hS.held kd (hs _ (by simp)) _ h.d)).1,c,e⟩
def aJ(β:Sx.Env)(m:Nat)(cf:CF)(s:gG):Sx.Env:=
 ⟨β.b,fun i=>if i=m then s.p.A else if i=m+1 then s.r.A else if i=m+2 then s.l.A else if i=m+3 then s.m.A else if i=m+4 then s.i.A else β.a i,
  fun i=>if i=m then cf.ak.length else if i=m+1 then cf.af.length else if i=m+2 then cf.rules.length else if i=m+3 then cf.ag.length else if i=m+4 then cf.ab.length else β.n i,
  fun i=>if i=m then s.p.c else if i=m+1 then s.r.c else if i=m+2 then s.l.c else if i=m+3 then s.m.c else if i=m+4 then s.i.c else β.c i⟩
def SG(tc:Option Nat)(rd:Sx.Row)(kx:List Nat)(kc kd k0 k1 k2 k3 k4 m:Nat)(cf:CF)(v:Value)(En:Option Prop):Sx.ct:=
 ⟨kx++[kc,kd,k0,k1,k2,k3,k4],[(kc,fq tc (jB m (m+1) (m+2) (m+3) (m+4) cf)),(kd,rd)],kx++[k0,k1,k2,k3,k4],dD cf,.val v,En⟩
theorem MH{β:Sx.Env}{W w':World}{row:Nat→Option Sx.Row}{tc:Option Nat}{rd rd':Sx.Row}{kx:List Nat}{kc kd k0 k1 k2 k3 k4 m:Nat}{cf cf':CF}{s':gG}{v:Value}{e:Ending}{En:Option Prop}{X:List Nat}
  (h:A7 row tc rd kc kd k0 k1 k2 k3 k4 cf) (hrd:Sx.aB β kd rd=some (β kd)) (htc:∀g,tc=some g→β kc=g)
  (he:e=.returned v) (hcf:qR w' (β kc) cf' s') (hbd:Sx.aZ (aJ β m cf' s') w' kd rd') (hnd:(cL (β kc) (β kd) s').Nodup)
  (hX:∀k∈X,∃i∈kx,Sx.b8 β row i=some k)
  (hfrom:∀k∈cL (β kc) (β kd) s',k∈X++cL (β kc) (β kd) (lG β k0 k1 k2 k3 k4)∨W.heap.size≤k) (hc:ai (X++cL (β kc) (β kd) (lG β k0 k1 k2 k3 k4)) W w') :
  Sx.FD β W row m (SG tc rd' kx kc kd k0 k1 k2 k3 k4 m cf' v En) e w' (aJ β m cf' s'):=by
 have bk:∀{i:Nat} {r:Sx.Row} {k:Nat},row i=some r→Sx.aB β i r=some k→Sx.b8 β row i=some k:=fun {i r k} hi hk=>by unfold Sx.b8;rw[hi];exact hk
 have dQ:∀k∈X++cL (β kc) (β kd) (lG β k0 k1 k2 k3 k4),k∈Sx.ct.dQ β row (SG tc rd' kx kc kd k0 k1 k2 k3 k4 m cf' v En):=fun k hk=>by
  show k∈([kc,kd]++(kx++[k0,k1,k2,k3,k4])).filterMap (Sx.b8 β row);rcases Xu.1 hk with hk|hk
  ·obtain⟨i,hi,hb⟩:=hX k hk
   exact WN.2 ⟨i,by simp[hi],hb⟩
  ·rcases ek.1 hk with rfl|rfl|hk|hk|hk|hk|hk
   ·exact WN.2 ⟨kc,by simp,bk h.c xl⟩
   ·exact WN.2 ⟨kd,by simp,bk h.d hrd⟩
   ·exact WN.2 ⟨k0,by simp,bk h.p hk⟩
   ·exact WN.2 ⟨k1,by simp,bk h.r hk⟩
   ·exact WN.2 ⟨k2,by simp,bk h.l hk⟩
   ·exact WN.2 ⟨k3,by simp,bk h.m hk⟩
   ·exact WN.2 ⟨k4,by simp,bk h.i hk⟩
 have ea:∀j,j < 5→(aJ β m cf' s').a (m+j)=[s'.p.A,s'.r.A,s'.l.A,s'.m.A,s'.i.A].getD j none:=fun j hj=>by
  match j,hj with
  | 0,_=>simp[aJ]
  | 1,_=>simp[aJ]
  | 2,_=>simp[aJ]
  | 3,_=>simp[aJ]
  | 4,_=>simp[aJ]
 have cells:(jB m (m+1) (m+2) (m+3) (m+4) cf').map (Sx.SV.den (aJ β m cf' s'))=[.slice s'.p.A cf'.ak.length s'.p.c,.slice s'.r.A cf'.af.length s'.r.c,.slice s'.l.A cf'.rules.length s'.l.c,.slice s'.m.A cf'.ag.length s'.m.c,.slice s'.i.A cf'.ab.length s'.i.c,.int .i64 cf'.bA]:=by simp[jB,Sx.SV.den,Sx.Env.sl,aJ]
 have own5:∀(j:Nat) (r:Sx.Row) (x:Nat),(dD cf')[j]?=some r→Sx.aB (aJ β m cf' s') (m+j) r=some x→j < 5∧([s'.p.A,s'.r.A,s'.l.A,s'.m.A,s'.i.A].getD j none).map (·.block)=some x:=fun j r x hr hx=>by
  have hj:j < 5:=(WQ.1 hr).1;refine⟨hj,?_⟩;rw[←ea j hj];match j,hj,hr with
  | 0,_,hr=>cases hr;exact hx
  | 1,_,hr=>cases hr;exact hx
  | 2,_,hr=>cases hr;exact hx
  | 3,_,hr=>cases hr;exact hx
  | 4,_,hr=>cases hr;exact hx
 have mem5:∀(j x:Nat),j < 5→([s'.p.A,s'.r.A,s'.l.A,s'.m.A,s'.i.A].getD j none).map (·.block)=some x→x∈cL (β kc) (β kd) s':=fun j x hj hx=>by
  refine ek.2 ?_;match j,hj,hx with
  | 0,_,hx=>exact .inr (.inr (.inl hx))
  | 1,_,hx=>exact .inr (.inr (.inr (.inl hx)))
  | 2,_,hx=>exact .inr (.inr (.inr (.inr (.inl hx))))
  | 3,_,hx=>exact .inr (.inr (.inr (.inr (.inr (.inl hx)))))
  | 4,_,hx=>exact .inr (.inr (.inr (.inr (.inr (.inr hx)))))
 have ne2:∀x,(∃j,j < 5∧([s'.p.A,s'.r.A,s'.l.A,s'.m.A,s'.i.A].getD j none).map (·.block)=some x)→x≠β kc∧x≠β kd:=fun x ⟨j,hj,hx⟩=>by
  have h1:cL (β kc) (β kd) s'=β kc::β kd::([s'.p.A,s'.r.A,s'.l.A,s'.m.A,s'.i.A].map (W7 (·.block))).filterMap id:=rfl;rw[h1,WT,WT]at hnd;have hin:x∈([s'.p.A,s'.r.A,s'.l.A,s'.m.A,s'.i.A].map (W7 (·.block))).filterMap id:=by
   refine WN.2 ⟨some x,?_,rfl⟩;rw[←hx];refine W9.2 ⟨_,?_,rfl⟩;match j,hj with
   | 0,_=>simp
   | 1,_=>simp
   | 2,_=>simp
   | 3,_=>simp
   | 4,_=>simp
  exact⟨fun he=>hnd.1 (by rw[←he];exact WW _ hin),fun he=>hnd.2.1 (by rw[←he];exact hin)⟩
 refine⟨fun i hi=>⟨rfl,?_,?_,?_⟩,he,fun q hq=>?_,fun k r hr=>?_,fun k r x hr hx=>?_,fun k k' r r' x hr hr' hx hx'=>?_,hc.mono fun k hk=>.inl (dQ k hk)⟩
 ·simp[aJ,show i≠m by omega,show i≠m+1 by omega,show i≠m+2 by omega,show i≠m+3 by omega,show i≠m+4 by omega]
 ·simp[aJ,show i≠m by omega,show i≠m+1 by omega,show i≠m+2 by omega,show i≠m+3 by omega,show i≠m+4 by omega]
 ·simp[aJ,show i≠m by omega,show i≠m+1 by omega,show i≠m+2 by omega,show i≠m+3 by omega,show i≠m+4 by omega]
 ·have hq:q=(kc,fq tc (jB m (m+1) (m+2) (m+3) (m+4) cf'))∨q=(kd,rd'):=by
   have:q∈[(kc,fq tc (jB m (m+1) (m+2) (m+3) (m+4) cf')),(kd,rd')]:=hq;simpa using this
  rcases hq with rfl|rfl
  ·refine I4 ?_ htc
   show aq w' (β kc) 46 _;rw[cells];exact hcf.bO
  ·exact hbd
 ·have hj:k < 5:=(WQ.1 (show(dD cf')[k]?=some r from hr)).1
  match k,hj,hr with
  | 0,_,hr=>cases hr;refine⟨by simp[aJ],?_⟩;have:=hcf.p;simpa[aJ]using this
  | 1,_,hr=>cases hr;refine⟨by simp[aJ],?_⟩;have:=hcf.r;simpa[aJ]using this
  | 2,_,hr=>cases hr;refine⟨by simp[aJ],?_⟩;have:=hcf.l;simpa[aJ]using this
  | 3,_,hr=>cases hr;refine⟨by simp[aJ],?_⟩;have:=hcf.m;simpa[aJ]using this
  | 4,_,hr=>cases hr;refine⟨by simp[aJ],?_⟩;have:=hcf.i;simpa[aJ]using this
 ·obtain⟨hj,hb⟩:=own5 k r x hr hx
  have hne:=ne2 x ⟨k,hj,hb⟩;rcases hfrom x (mem5 k x hj hb)with hx|hx
  ·refine .inl ?_
   show x∈(kx++[k0,k1,k2,k3,k4]).filterMap (Sx.b8 β row);rcases Xu.1 hx with hx|hx
   ·obtain⟨i,hi,hbk⟩:=hX x hx
    exact WN.2 ⟨i,by simp[hi],hbk⟩
   ·rcases ek.1 hx with hx|hx|hk|hk|hk|hk|hk
    ·exact absurd hx hne.1
    ·exact absurd hx hne.2
    ·exact WN.2 ⟨k0,by simp,bk h.p hk⟩
    ·exact WN.2 ⟨k1,by simp,bk h.r hk⟩
    ·exact WN.2 ⟨k2,by simp,bk h.l hk⟩
    ·exact WN.2 ⟨k3,by simp,bk h.m hk⟩
    ·exact WN.2 ⟨k4,by simp,bk h.i hk⟩
  ·exact .inr hx
 ·obtain⟨hj,hb⟩:=own5 k r x hr hx
  obtain⟨hj',hb'⟩:=own5 k' r' x hr' hx';have h1:cL (β kc) (β kd) s'=β kc::β kd::([s'.p.A,s'.r.A,s'.l.A,s'.m.A,s'.i.A].map (W7 (·.block))).filterMap id:=rfl;rw[h1,WT,WT]at hnd;have key:∀(l:List (Option Go.Addr)) (j j':Nat),((l.map (W7 (·.block))).filterMap id).Nodup→j < l.length→j' < l.length→(l.getD j none).map (·.block)=some x→(l.getD j' none).map (·.block)=some x→j=j':=by
   intro l;induction l with
   |nil=>intro j j' _ hj;simp at hj
   |cons o l ih=>
    intro j j' hn hj hj' hb hb';have no:o.map (·.block)=some x→∀i,i < l.length→(l.getD i none).map (·.block)=some x→False:=fun ho i hi hbi=>by
     have e:((o::l).map (W7 (·.block))).filterMap id=x::(l.map (W7 (·.block))).filterMap id:=by rw[Xh,ho];rfl
     rw[e,WT]at hn;refine hn.1 (WN.2 ⟨some x,W9.2 ⟨l.getD i none,?_,hbi⟩,rfl⟩);rw[W6,WR hi];exact List.getElem_mem hi
    have hn':((l.map (W7 (·.block))).filterMap id).Nodup:=by
     rw[Xh]at hn;cases ho:o.map (·.block)with
     |none=>rw[ho]at hn;exact hn
     |some y=>rw[ho]at hn;exact(WT.1 hn).2
    cases j with
    |zero=>
     cases j' with
     |zero=>rfl
     |succ j'=>exact(no hb j' (by simpa using hj') hb').elim
    |succ j=>
     cases j' with
     |zero=>exact(no hb' j (by simpa using hj) hb).elim
     |succ j'=>rw[ih j j' hn' (by simpa using hj) (by simpa using hj') hb hb']
  exact key _ k k' hnd.2.2 hj hj' hb hb'
abbrev VT(tc td:Option Nat)(kx:List Nat)(kc kd k0 k1 k2 k3 k4 m:Nat)(cf:CF)(d:Nat)(v:Value)(En:Option Prop):Sx.ct:=SG tc (lZ td d) kx kc kd k0 k1 k2 k3 k4 m cf v En
theorem P9{β:Sx.Env}{W w':World}{row:Nat→Option Sx.Row}{tc td:Option Nat}{kx:List Nat}{kc kd k0 k1 k2 k3 k4 m:Nat}{cf cf':CF}{d d':Nat}{s':gG}{v:Value}{e:Ending}{En:Option Prop}{X:List Nat}
  (h:xB row tc td kc kd k0 k1 k2 k3 k4 cf d) (htc:∀g,tc=some g→β kc=g) (htd:∀g,td=some g→β kd=g)
  (he:e=.returned v) (hcf:qR w' (β kc) cf' s') (hbd:aq w' (β kd) 3 [.int .i64 (d':Int)]) (hnd:(cL (β kc) (β kd) s').Nodup)
  (hX:∀k∈X,∃i∈kx,Sx.b8 β row i=some k)
  (hfrom:∀k∈cL (β kc) (β kd) s',k∈X++cL (β kc) (β kd) (lG β k0 k1 k2 k3 k4)∨W.heap.size≤k) (hc:ai (X++cL (β kc) (β kd) (lG β k0 k1 k2 k3 k4)) W w') :
  Sx.FD β W row m (VT tc td kx kc kd k0 k1 k2 k3 k4 m cf' d' v En) e w' (aJ β m cf' s'):=
 MH h EW htc he hcf (PD hbd htd) hnd hX hfrom hc
set_option maxRecDepth 100000
open Go.RowKit Go.Lib Go.Sort _root_.Go.Proofs.Tryz
set_option maxRecDepth 100000
theorem lU{t:Nat}{sv:Sx.SV}:∀{fr:List (Nat×Sx.SV)},Sx.look fr t=some sv→(t,sv)∈fr
 | [],h=>by cases h
 | (k,v)::r,h=>by
  rw[Sx.fD]at h;split at h
  ·rename_i hk
   subst hk;rw[Sx.b9 h];simp
  ·exact WW _ (lU h)
theorem GJ{ds:List Deferred}{b:Sx.aV}{n:Nat}{β:Sx.Env}{w:World}{mem:List Sx.Row}{fr:List (Nat×Sx.SV)}{tmps:Array Value}(hF:Sx.Rows b β w mem)(hsz:tmps.size=n)(hg:∀p∈fr,tmps[p.1]?=some (p.2.den β))
  (hw:(Sx.eA (fun r=>Sx.jK mem.length r.cs) mem&&Sx.eA (fun p=>Sx.xF mem.length p.2) fr)=true):Sx.Hd ds b n β ⟨fr,mem⟩ { tmps:=tmps,defers:=ds } w:=by
 rw[Xc]at hw;exact⟨hsz,rfl,fun t sv ht=>hg _ (lU ht),hF.held,hF.new,hF.inj,hF.aF,fun t sv ht=>Sx.mw (Sx.aU hw.2 _ (lU ht)),fun i r hi=>Sx.iH (Sx.aU hw.1 r (WZ hi))⟩
theorem FH(w:World)(l:Bs)(hl:l.length≤1100000):Calls prog 90 #[ae l,.bool true] w (Sx.dM w (.sl 9 1 (aE true l).length ((aE true l).map ae))):=
 (FG w l true hl).mono fun _ _ ⟨_,_,he,hO,hA,hC⟩=>⟨_,he,hO,fun k hk=>hA k ((dW _ _ _).symm.trans hk),hC⟩
theorem P4(ws:List Bs)(d:Nat):C0 (aO ws 0).val d=dN ws d:=by
 unfold C0 dN aO;cases h:ws[0]? with
 |none=>rfl
 |some x=>
  show(if x=bD then d+1 else d)=_;by_cases hx:x=bD
  ·rw[if_pos hx,if_pos (by rw[hx])]
  ·rw[if_neg hx,if_neg (fun hh=>hx (W5.inj hh))]
theorem vI{w w4:World}{S:List Nat}{p:Nat}(v:Value)(hb:aq w4 p 48 [.nilIface])(hc:ai S w w4)(hp:w.heap.size≤p):(w4.setCell ⟨p,0,none⟩ v).cell? ⟨p,0,none⟩=some v∧ai [p] w4 (w4.setCell ⟨p,0,none⟩ v)∧ai S w (w4.setCell ⟨p,0,none⟩ v):=by
 have h2:ai [p] w4 (w4.setCell ⟨p,0,none⟩ v):=(ai.refl [p] w4).setCell (.inl (by simp)) v;refine⟨(hb.q8 0 v).cell_of rfl,h2,((hc.mono (S':=p::S) fun k hk=>.inl (WW p hk)).trans (h2.mono fun k hk=>.inl (by rw[WV.1 hk];simp))).mono fun k hk=>?_⟩;rcases WY.1 hk with rfl|hk
 ·exact .inr hp
 ·exact .inl hk
def U5(l:Bs)(gc gd:Nat)(cf:CF)(d:Nat)(s:gG)(w w':World):Prop:=∃cf' i s',aq w' w.heap.size 48 [.nilIface]∧fm (aE true l) cf d=.ok cf' i∧qR w' gc cf' s'∧aq w' gd 3 [.int .i64 (dN (aE true l) d:Nat)]∧(cL gc gd s').Nodup∧(∀k∈cL gc gd s',k∈cL gc gd s∨w.heap.size < k)∧ai (cL gc gd s) w w'
def V5(l:Bs)(gc gd:Nat)(cf:CF)(d:Nat)(s:gG)(w:World)(N:Nat)(w':World):Prop:=∃code p:Nat,aq w' w.heap.size 48 [.nilIface]∧fm (aE true l) cf d=.no code p∧w.heap.size < N∧aq w' N 105 [.int .i64 (code:Int),.int .i64 (p:Int)]∧ai (cL gc gd s) w w'
set_option maxHeartbeats 4000000 in
theorem Lj(l:Bs)(hl:l.length≤1100000){w:World}{gc gd:Nat}{cf:CF}{d:Nat}{s:gG}(h:U9 w gc gd cf d s)(hne:aE true l≠[]) :
  Calls prog 64 #[ae l,.pointer (some ⟨gc,0,none⟩),.pointer (some ⟨gd,0,none⟩)] w (AZ l gc gd cf d s w):=by
 obtain⟨t,ht⟩:∃t:Value,t=ae l:=⟨_,rfl⟩;have HT:Hid (t=ae l):=hid ht;rw[←ht];clear ht;have hmf:∀(fn:Fn) (first cap:Array Value) (w:World),(Xv fn first cap).run prog w=.ok (.func fn first cap) w:=fun _ _ _ _=>rfl;have hlt:=h.at_.lt h.bd;have HH:=hid h;clear h;obtain⟨n,hn⟩:∃n,n=(aE true l).length:=⟨_,rfl⟩;obtain⟨xs,hxs⟩:∃xs,xs=(aE true l).map ae:=⟨_,rfl⟩;have HW:Hid (∀W,Calls prog 90 #[t,.bool true] W (Sx.dM W (.sl 9 1 n xs))):=hid fun W=>by rw[HT.out,hn,hxs];exact FH W l hl
 have HN:=hid hn;have HX:=hid hxs;clear hn hxs;go_enter_defers func64,ntmps64
 go_upto_region 3 with(go_at_call 90;refine(HW.out _).mono ?_;intro e w2 hp;obtain⟨sv,he,hacc⟩:=hp;obtain⟨A,cc,hsv,_,_⟩:=hacc.own.form;subst hsv;subst he)
 rename_i K1 hK1 K2 hK2;have h:=HH.out;obtain⟨w1,hw1⟩:∃w1,w1=w.alloc (.cells #[.nilIface] 48):=⟨_,rfl⟩;have C1:ai [] w w1:=by rw[hw1];exact(ai.refl [] w).alloc _
 have B0:aq w1 w.heap.size 48 [.nilIface]:=by rw[hw1];exact aq.new w 48 #[.nilIface]
 have z1:w1.heap.size=w.heap.size+1:=by rw[hw1];simp
 rw[←hw1]at hacc;obtain⟨w3,hw3⟩:∃w3,w3=w2.alloc (.cells #[.slice A n cc,.int .i64 0] 154):=⟨_,rfl⟩;have C3:ai [] w2 w3:=by rw[hw3];exact(ai.refl [] w2).alloc _
 have B3:aq w3 w2.heap.size 154 [.slice A n cc,.int .i64 0]:=by rw[hw3];exact aq.new w2 154 #[.slice A n cc,.int .i64 0]
 rw[←hw3];have C13:=hacc.aF.trans C3;have C03:=C1.trans C13;have hO3:=hacc.own.aF C3 (by simp);have z2:=hacc.aF.size;have hat:=h.at_.aF (gd:=gd) C03 (by simp);have hbd:=h.bd.aF C03 (by simp);have hA:∀k,A.map (·.block)=some k→w1.heap.size≤k∧k < w2.heap.size:=fun k hk=>⟨hacc.new k ((dW _ _ _).trans hk),hacc.own.lt k ((dW _ _ _).trans hk)⟩;have hlan:=h.uB.dm C03;have hwc:=s7 true l;have hnl:=HN.out;have hpos:0 < n:=by rw[hnl];exact List.length_pos_iff.2 hne
 have hI:Vm w3 w2.heap.size gc gd A n cc 0 (aE true l) cf d s:=by
  refine⟨⟨B3,zd (by rw[←HX.out];exact hO3) hnl.symm (ai.refl _ _) fun k hk=>?_,Xa _,by omega,hlan,fun k hk=>?_,by rw[jb];simp,fun x hx=>by have:=hwc.2 x hx;omega⟩,hat,hbd,?_,h.qT,h.Vi⟩
  ·rw[jb,WY,not_or]
   have h1:=hA k hk;exact⟨by omega,fun hr=>by have:=hlt k hr;omega⟩
  ·rw[jb]at hk
   rcases WY.1 hk with rfl|hk
   ·have:=h.uB.low;omega
   ·exact h.s9 k hk
  ·rw[jb,WT]
   exact⟨fun hr=>by have:=hlt _ hr;omega,h.nd⟩
 have hc0:w3.cell? ⟨w2.heap.size,0,none⟩=some (.slice A n cc):=B3.cell_of rfl;have hgt:decide ((0:Int) < (n:Int))=true:=decide_eq_true (by omega);have hB3:=B0.aF C13 (by simp);have hp0:w.heap.size∉Cz w2.heap.size gc gd s:=by rw[jb,WY,not_or];exact⟨by omega,fun hr=>by have:=hlt _ hr;omega⟩
 have HC:=hid ((Sh hI).mono fun e w4 (hp:s5 w2.heap.size gc gd A n cc (rJ (aE true l) 0 cf d) _ _ w3 e w4)=>(show(e=.returned (.tuple #[])∧w4.cell? ⟨w.heap.size,0,none⟩=some .nilIface∧w4.frozen? ⟨w.heap.size,0,none⟩=false∧Hid (U5 l gc gd cf d s w w4))∨∃N,e=.panicked [{ v:=.iface 103 (.pointer (some ⟨N,0,none⟩)),recovered:=false }]∧w4.cell? ⟨w.heap.size,0,none⟩=some .nilIface∧w4.frozen? ⟨w.heap.size,0,none⟩=false∧Hid (V5 l gc gd cf d s w N w4)from by
  have hline:fm (aE true l) cf d=rJ (aE true l) 0 cf d:=by
   unfold fm;split
   ·rename_i h0;exact absurd h0 hne
   ·rfl
  have aF:∀{w4},ai (Cz w2.heap.size gc gd s) w3 w4→ai (cL gc gd s) w w4:=fun {w4} hc=>((C03.mono (by simp)).trans hc).mono fun k hk=>by
   rw[jb]at hk;rcases WY.1 hk with rfl|hk
   ·exact .inr (by omega)
   ·exact .inl hk
  rcases hp with⟨cf',i',s',hT,_,he,_,hcf,hb',hn',hf',hc⟩ | ⟨code,q,chain,hT,he,hf,hc⟩
  ·have hB4:=hB3.aF hc hp0
   rw[P4]at hb';rw[jb]at hn';refine .inl ⟨he,hB4.cell_of rfl,hB4.frozen 0,hid ⟨cf',i',s',hB4,hline.trans hT,hcf,hb',(WT.1 hn').2,fun k hk=>?_,aF hc⟩⟩;rcases hf' k (WW _ hk)with hx|hx
   ·rw[jb]at hx
    rcases WY.1 hx with rfl|hx
    ·exact .inr (by omega)
    ·exact .inl hx
   ·have:=C3.size;exact .inr (by omega)
  ·have hB4:=hB3.aF hc hp0
   obtain⟨N,rfl,h1,h2⟩:=hf;exact .inr ⟨N,he,hB4.cell_of rfl,hB4.frozen 0,hid ⟨code,q,hB4,hline.trans hT,by have:=C3.size;omega,h2,aF hc⟩⟩))
 have HLT:=hid hlt;clear hI hat hbd hO3 hA C1 C3 C13 C03 B0 B3 hlan hwc hnl h hlt z1 z2 hacc hw1 hw3 hne hB3 hp0;go_wp2_with (go_at_call 131;refine HC.out.mono ?_;rintro e w4 (⟨rfl,hcell,hfz,HO⟩ | ⟨N,rfl,hcell,hfz,HO⟩))
 ·have HL:=HLT.out
  have ho:=HO.out;refine leaves_cons (f:=130) (args:=#[.pointer (some ⟨w.heap.size,0,none⟩)]) (by simp) (by simp[go_sem]) ?_;refine(Di ⟨w.heap.size,0,none⟩ _).mono ?_;rintro e u' w'' ⟨rfl,rfl,rfl⟩;obtain⟨cf',i',s',hB4,hT,hcf,hb',hn',hf',hc⟩:=ho;obtain⟨h1,h2,h3⟩:=vI .nilIface hB4 hc (W3 _);simp[Leaves,settle,results,results64,go_sem,h1];have hp:w.heap.size∉cL gc gd s':=fun hk=>by
   rcases hf' _ hk with hx|hx
   ·have:=HL _ hx;omega
   ·omega
  refine .inl ⟨cf',i',s',hT,rfl,hcf.aF (gd:=gd) h2 (fun k hk he=>hp (by rw[←WV.1 he];exact hk)),hb'.aF h2 (fun he=>hp (by rw[←WV.1 he];exact ek.2 (.inr (.inl rfl)))),hn',fun k hk=>?_,h3⟩;rcases hf' k hk with hx|hx
  ·exact .inl hx
  ·exact .inr (by omega)
 ·have ho:=HO.out
  refine leaves_cons (f:=130) (args:=#[.pointer (some ⟨w.heap.size,0,none⟩)]) (by simp) (by simp[go_sem]) ?_;refine(Jr ⟨w.heap.size,0,none⟩ N [] _ hcell hfz).mono ?_;rintro e u' w'' ⟨rfl,rfl,rfl⟩;obtain⟨code,q,hB4,hT,hN,hb,hc⟩:=ho;obtain⟨h1,h2,h3⟩:=vI (.iface 103 (.pointer (some ⟨N,0,none⟩))) hB4 hc (W3 _);simp[Leaves,settle,results,results64,go_sem,h1];exact .inr ⟨code,q,N,hT,rfl,by omega,hb.aF h2 (fun he=>by have:=WV.1 he;omega),h3⟩
set_option maxHeartbeats 4000000 in
theorem Lk(l:Bs)(hl:l.length≤1100000){w:World}{gc gd:Nat}{cf:CF}{d:Nat}{s:gG}(h:U9 w gc gd cf d s)(hne:aE true l=[]) :
  Calls prog 64 #[ae l,.pointer (some ⟨gc,0,none⟩),.pointer (some ⟨gd,0,none⟩)] w (AZ l gc gd cf d s w):=by
 obtain⟨t,ht⟩:∃t:Value,t=ae l:=⟨_,rfl⟩;have HT:Hid (t=ae l):=hid ht;rw[←ht];clear ht;have hmf:∀(fn:Fn) (first cap:Array Value) (w:World),(Xv fn first cap).run prog w=.ok (.func fn first cap) w:=fun _ _ _ _=>rfl;have hlt:=h.at_.lt h.bd;have HH:=hid h;clear h;have HW:Hid (∀W,Calls prog 90 #[t,.bool true] W (Sx.dM W (.sl 9 1 0 []))):=hid fun W=>by have:=FH W l hl;rw[hne]at this;rw[HT.out];exact this
 go_enter_defers func64,ntmps64
 go_upto_region 3 with(go_at_call 90;refine(HW.out _).mono ?_;intro e w2 hp;obtain⟨sv,he,hacc⟩:=hp;obtain⟨A,cc,hsv,_,_⟩:=hacc.own.form;subst hsv;subst he)
 rename_i K1 hK1 K2 hK2;have h:=HH.out;obtain⟨w1,hw1⟩:∃w1,w1=w.alloc (.cells #[.nilIface] 48):=⟨_,rfl⟩;have C1:ai [] w w1:=by rw[hw1];exact(ai.refl [] w).alloc _
 have B0:aq w1 w.heap.size 48 [.nilIface]:=by rw[hw1];exact aq.new w 48 #[.nilIface]
 rw[←hw1]at hacc;obtain⟨w3,hw3⟩:∃w3,w3=w2.alloc (.cells #[.slice A 0 cc,.int .i64 0] 154):=⟨_,rfl⟩;have C3:ai [] w2 w3:=by rw[hw3];exact(ai.refl [] w2).alloc _
 have B3:aq w3 w2.heap.size 154 [.slice A 0 cc,.int .i64 0]:=by rw[hw3];exact aq.new w2 154 #[.slice A 0 cc,.int .i64 0]
 rw[←hw3];have C13:=hacc.aF.trans C3;have C03:=C1.trans C13;have hB3:=B0.aF C13 (by simp);have HO:=hid (show U5 l gc gd cf d s w w3 from⟨cf,0,s,hB3,by rw[hne];rfl,h.at_.aF (gd:=gd) C03 (by simp),by rw[hne];exact h.bd.aF C03 (by simp),h.nd,fun k hk=>.inl hk,C03.mono (by simp)⟩);have hc0:w3.cell? ⟨w2.heap.size,0,none⟩=some (.slice A 0 cc):=B3.cell_of rfl;have hcell:w3.cell? ⟨w.heap.size,0,none⟩=some .nilIface:=hB3.cell_of rfl;have hfz:w3.frozen? ⟨w.heap.size,0,none⟩=false:=hB3.frozen 0;have HLT:=hid hlt;clear C1 C3 C13 C03 B0 B3 h hlt hacc hw1 hw3 hB3 hne;go_wp2
 have HL:=HLT.out;have ho:=HO.out;refine leaves_cons (f:=130) (args:=#[.pointer (some ⟨w.heap.size,0,none⟩)]) (by simp) (by simp[go_sem]) ?_;refine(Di ⟨w.heap.size,0,none⟩ _).mono ?_;rintro e u' w'' ⟨rfl,rfl,rfl⟩;obtain⟨cf',i',s',hB4,hT,hcf,hb',hn',hf',hc⟩:=ho;obtain⟨h1,h2,h3⟩:=vI .nilIface hB4 hc (W3 _);simp[Leaves,settle,results,results64,go_sem,h1];have hp:w.heap.size∉cL gc gd s':=fun hk=>by
  rcases hf' _ hk with hx|hx
  ·have:=HL _ hx;omega
  ·omega
 refine .inl ⟨cf',i',s',hT,rfl,hcf.aF (gd:=gd) h2 (fun k hk he=>hp (by rw[←WV.1 he];exact hk)),hb'.aF h2 (fun he=>hp (by rw[←WV.1 he];exact ek.2 (.inr (.inl rfl)))),hn',fun k hk=>?_,h3⟩;rcases hf' k hk with hx|hx
 ·exact .inl hx
 ·exact .inr (by omega)
theorem QN(l:Bs)(hl:l.length≤1100000){w:World}{gc gd:Nat}{cf:CF}{d:Nat}{s:gG}(h:U9 w gc gd cf d s) :
  Calls prog 64 #[ae l,(pt gc 0),(pt gd 0)] w (AZ l gc gd cf d s w):=by
 by_cases hne:aE true l=[]
 ·exact Lk l hl h hne
 ·exact Lj l hl h hne
set_option maxRecDepth 100000
open Go.RowKit Go.Extern.Stop Go.Stop Go.Extern _root_.Go.Proofs.Tryz
theorem SM(t:Value)(w:World) :
  Calls prog 63 #[.nilIface,t] w fun e w'=>e=.returned (.bool false)∧w'=w:=by
 go_enter func63,ntmps63
 go_wp2
 go_ret
 exact⟨rfl,rfl⟩
theorem Dt(t:Addr)(w:World):(ReflectliteValue.unpack (.iface 111 (.pointer (some t)))).run prog w
  =.ok (.agg #[(pt 9 111),(pt (w.heap.size) 0),.int .u64 150]) (w.alloc (.cells #[.pointer (some t)] 111)):=by kernel_rfl
theorem M6(a:Addr)(w:World):(ReflectliteValue.methodAny (ReflectliteValue.valueError "reflectlite.Value.Type" 0) (fun t _ _ _=>ReflectliteType.toType t) #[.agg #[(pt 9 111),.pointer (some a),.int .u64 150]]).run prog w
  =.ok (.iface 242 (.agg #[(pt 9 111)])) w:=by kernel_rfl
theorem AU(h:Value)(w:World):(Go.method 430 242 (.agg #[h]) "Kind").run prog w=.ok (262,h) w:=by kernel_rfl
theorem M7(w:World):((ReflectliteType.abiMethod fun t=>(fun a:Nat=>WU Xe (a:Int)) <$> Rtype.kind t) #[(pt 9 111)]).run prog w=.ok (.int .u8 22) w:=by kernel_rfl
theorem M8(w:World):((ReflectliteType.abiMethod fun t=>(fun a:Nat=>WU Xe (a:Int)) <$> Rtype.kind t) #[(pt 9 103)]).run prog w=.ok (.int .u8 22) w:=by kernel_rfl
theorem V7(z:Sem Value)(f:TypeId→Addr→Nat→Nat→Sem Value)(v:Value) :
  ReflectliteValue.method z f #[v]=(do match ←ReflectliteValue.parts v with|none=>z|some (t,a,fl)=>f t a fl (fl%32)):=rfl
theorem y8(a:Addr)(w:World):(ReflectliteValue.parts (.agg #[(pt 9 111),.pointer (some a),.int .u64 150])).run prog w=.ok (some (111,a,150)) w:=by kernel_rfl
theorem Jz(a p:Addr)(W:World)(ha:W.cell? a=some (.pointer (some p))) :
  (ReflectliteValue.method (ReflectliteValue.valueError "reflectlite.Value.IsNil" 0) ReflectliteValue.isNil #[.agg #[.pointer (some ⟨9,111,none⟩),.pointer (some a),.int .u64 150]]).run prog W=.ok (.bool false) W:=by
 rw[V7];simp only[Sem.run_bind,y8,W2];simp[ReflectliteValue.isNil,loadVar,isAgg,underlying,underlying111,ha,W2]
theorem AV(h:Value)(w:World):(Go.method 430 242 (.agg #[h]) "Elem").run prog w=.ok (275,.agg #[h]) w:=by kernel_rfl
theorem qK(h:Value)(w:World):(Go.method 430 242 (.agg #[h]) "Implements").run prog w=.ok (276,.agg #[h]) w:=by kernel_rfl
theorem oP(h:Value)(w:World):(Go.method 430 242 (.agg #[h]) "AssignableTo").run prog w=.ok (273,.agg #[h]) w:=by kernel_rfl
theorem M9(w:World):(ReflectliteType.method ReflectliteType.elem #[.agg #[(pt 9 111)]]).run prog w=.ok (.iface 242 (.agg #[(pt 9 103)])) w:=by kernel_rfl
theorem xr(w:World):(ReflectliteType.relation "Implements" ReflectliteType.implements_ #[.agg #[(pt 9 103)],.iface 242 (.agg #[(pt 9 48)])]).run prog w=.ok (.bool true) w:=by kernel_rfl
theorem Fu(v:Value)(w:World):(ReflectliteType.typeOf #[.iface 103 v]).run prog w=.ok (.iface 242 (.agg #[(pt 9 103)])) w:=by kernel_rfl
theorem xt(w:World):(ReflectliteType.relation "AssignableTo" ReflectliteType.assignableTo #[.agg #[(pt 9 103)],.iface 242 (.agg #[(pt 9 103)])]).run prog w=.ok (.bool true) w:=by kernel_rfl
theorem Du(e:Addr)(w:World):(ReflectliteValue.unpack (.iface 103 (.pointer (some e)))).run prog w
  =.ok (.agg #[(pt 9 103),(pt (w.heap.size) 0),.int .u64 150]) (w.alloc (.cells #[.pointer (some e)] 103)):=by kernel_rfl
theorem Fw(w:World):(Rtype.elem? 111).run prog w=.ok (some 103) w:=by kernel_rfl
theorem SO(p:Addr)(w:World):(ReflectliteValue.mk 103 p ReflectliteValue.flagAddr).run prog w=.ok (.agg #[(pt 9 103),.pointer (some p),.int .u64 406]) w:=by kernel_rfl
theorem JA(a p:Addr)(W:World)(ha:W.cell? a=some (.pointer (some p))) :
  (ReflectliteValue.method (ReflectliteValue.valueError "reflectlite.Value.Elem" 0) ReflectliteValue.elem #[.agg #[.pointer (some ⟨9,111,none⟩),.pointer (some a),.int .u64 150]]).run prog W
   =.ok (.agg #[.pointer (some ⟨9,103,none⟩),.pointer (some p),.int .u64 406]) W:=by
 rw[V7];simp only[Sem.run_bind,y8,W2];simp[ReflectliteValue.elem,loadVar,isAgg,underlying,underlying111,ha,W2,Fw,SO]
theorem Wt(v x:Value):ReflectliteValue.set #[v,x]=(do
  let (some (dst,a,fl),some (src,b,_)):=(←ReflectliteValue.parts v,←ReflectliteValue.parts x)
   |unsupported (.noEntry "extern/(internal/reflectlite.Value).Set.zeroValue")
  if fl / ReflectliteValue.flagAddr%2==0 then unsupported (.noEntry "extern/(internal/reflectlite.Value).Set.unaddressable")
  let val ←loadVar src b
  if ←Rtype.directlyAssignable dst src then storeVar dst a val
  else if ←Rtype.implements dst src then
   if(←Rtype.kind src)==20 then
    match val with
    |.nilIface=>unsupported (.noEntry "extern/reflectlite: a nil value of one interface type handed on as a value of another")
    |_=>storeVar dst a val
   else storeVar dst a (.iface src val)
  else panicString ("reflectlite.Set: value of type "++(←Rtype.spelt src)++ " is not assignable to type "++(←Rtype.spelt dst))
  pure (.tuple #[])):=rfl
theorem Fv(a:Addr)(w:World):(ReflectliteValue.parts (.agg #[(pt 9 103),.pointer (some a),.int .u64 406])).run prog w=.ok (some (103,a,406)) w:=by kernel_rfl
theorem Jy(a:Addr)(w:World):(ReflectliteValue.parts (.agg #[(pt 9 103),.pointer (some a),.int .u64 150])).run prog w=.ok (some (103,a,150)) w:=by kernel_rfl
theorem Fx(w:World):(Rtype.directlyAssignable 103 103).run prog w=.ok true w:=by kernel_rfl
theorem Qn(ta b e:Addr)(old:Value)(W:World)(hb:W.cell? b=some (.pointer (some e)))(ht:W.cell? ta=some old)(hf:W.frozen? ta=false) :
  (ReflectliteValue.set #[.agg #[.pointer (some ⟨9,103,none⟩),.pointer (some ta),.int .u64 406],.agg #[.pointer (some ⟨9,103,none⟩),.pointer (some b),.int .u64 150]]).run prog W
   =.ok (.tuple #[]) (W.setCell ta (.pointer (some e))):=by
 rw[Wt];simp only[Sem.run_bind,Fv,Jy,W2];simp[ReflectliteValue.flagAddr,loadVar,isAgg,underlying,underlying103,hb,W2,Fx,storeVar,Value.cells,storeCells,Addr.add];rw[run_store prog W ta _ _ (by rfl)];simp[ht,hf]
set_option maxHeartbeats 4000000 in
theorem SN(e t:Addr)(old:Value)(w:World)(hg:w.cell? ⟨0,0,none⟩=some (.iface 242 (.agg #[.pointer (some ⟨9,48,none⟩)])))(ht0:w.cell? t=some old)(hf0:w.frozen? t=false) :
  Calls prog 63 #[.iface 103 (.pointer (some e)),.iface 111 (.pointer (some t))] w fun ev w'=>ev=.returned (.bool true)∧w'=((((w.alloc (.cells #[.pointer (some t)] 111)).alloc (.cells #[.pointer (some ⟨9,111,none⟩),.pointer (some ⟨w.heap.size,0,none⟩),.int .u64 150] 191)).alloc (.cells #[.pointer (some ⟨9,111,none⟩),.pointer (some ⟨w.heap.size,0,none⟩),.int .u64 150] 191)).alloc (.cells #[.pointer (some e)] 103)).setCell t (.pointer (some e)):=by
 have h6:=@run_callFunc_extern prog 126 _ (fun args=>ReflectliteValue.unpack (args.getD 0 (.tuple #[]))) func126 (by kernel_rfl) (by kernel_rfl) (by kernel_rfl) (by kernel_rfl);have h7:=@run_callFunc_extern prog 127 _ (ReflectliteValue.methodAny (ReflectliteValue.valueError "reflectlite.Value.Type" 0) (fun t _ _ _=>ReflectliteType.toType t)) func127 (by kernel_rfl) (by kernel_rfl) (by kernel_rfl) (by kernel_rfl);have h8:=@run_callFunc_extern prog 128 _ (ReflectliteValue.method (ReflectliteValue.valueError "reflectlite.Value.IsNil" 0) ReflectliteValue.isNil) func128 (by kernel_rfl) (by kernel_rfl) (by kernel_rfl) (by kernel_rfl);have Wh:=@run_callFunc_extern prog 262 _ (ReflectliteType.abiMethod fun t=>do pure (.int .u8 (←Rtype.kind t))) func262 (by kernel_rfl) (by kernel_rfl) (by kernel_rfl) (by kernel_rfl);have h37:=@run_callFunc_extern prog 275 _ (ReflectliteType.method ReflectliteType.elem) func275 (by kernel_rfl) (by kernel_rfl) (by kernel_rfl) (by kernel_rfl);have h38:=@run_callFunc_extern prog 276 _ (ReflectliteType.relation "Implements" ReflectliteType.implements_) func276 (by kernel_rfl) (by kernel_rfl) (by kernel_rfl) (by kernel_rfl);have h10:=@run_callFunc_extern prog 139 _ ReflectliteType.typeOf func139 (by kernel_rfl) (by kernel_rfl) (by kernel_rfl) (by kernel_rfl);have h35:=@run_callFunc_extern prog 273 _ (ReflectliteType.relation "AssignableTo" ReflectliteType.assignableTo) func273 (by kernel_rfl) (by kernel_rfl) (by kernel_rfl) (by kernel_rfl);have h11:=@run_callFunc_extern prog 184 _ (ReflectliteValue.method (ReflectliteValue.valueError "reflectlite.Value.Elem" 0) ReflectliteValue.elem) func184 (by kernel_rfl) (by kernel_rfl) (by kernel_rfl) (by kernel_rfl);have h12:=@run_callFunc_extern prog 185 _ ReflectliteValue.set func185 (by kernel_rfl) (by kernel_rfl) (by kernel_rfl) (by kernel_rfl);have tO:=Fu;have mA:=oP;have a25:=xt;have v25:=Du;have f6:=Dt;have f7:=M6;have mK:=AU;have mE:=AV;have mI:=qK;have k27:=M7;have k25:=M8;have e27:=M9;have i25:=xr;have n8:=Jz ⟨w.heap.size,0,none⟩ t ((w.alloc (.cells #[.pointer (some t)] 111)).alloc (.cells #[.pointer (some ⟨9,111,none⟩),.pointer (some ⟨w.heap.size,0,none⟩),.int .u64 150] 191)) (by simp);have hlt:0 < w.heap.size:=by
  rcases Nat.eq_zero_or_pos w.heap.size with h0|h
  ·simp[World.cell?,h0]at hg
  ·exact h
 have hg2:((w.alloc (.cells #[.pointer (some t)] 111)).alloc (.cells #[.pointer (some ⟨9,111,none⟩),.pointer (some ⟨w.heap.size,0,none⟩),.int .u64 150] 191)).cell? ⟨0,0,none⟩=some (.iface 242 (.agg #[.pointer (some ⟨9,48,none⟩)])):=by rw[World.cell?_alloc_lt _ _ ⟨0,0,none⟩ (by simp),World.cell?_alloc_lt _ _ ⟨0,0,none⟩ hlt];exact hg
 have htl:t.block < w.heap.size:=by
  rcases Nat.lt_or_ge t.block w.heap.size with h|h
  ·exact h
  ·simp[World.cell?,Array.getElem?_eq_none h]at ht0
 have el:=JA ⟨w.heap.size,0,none⟩ t (((w.alloc (.cells #[.pointer (some t)] 111)).alloc (.cells #[.pointer (some ⟨9,111,none⟩),.pointer (some ⟨w.heap.size,0,none⟩),.int .u64 150] 191)).alloc (.cells #[.pointer (some ⟨9,111,none⟩),.pointer (some ⟨w.heap.size,0,none⟩),.int .u64 150] 191)) (by rw[World.cell?_alloc_lt _ _ ⟨w.heap.size,0,none⟩ (by simp;omega)];simp)
 have st:=Qn t ⟨w.heap.size+1+1+1,0,none⟩ e old ((((w.alloc (.cells #[.pointer (some t)] 111)).alloc (.cells #[.pointer (some ⟨9,111,none⟩),.pointer (some ⟨w.heap.size,0,none⟩),.int .u64 150] 191)).alloc (.cells #[.pointer (some ⟨9,111,none⟩),.pointer (some ⟨w.heap.size,0,none⟩),.int .u64 150] 191)).alloc (.cells #[.pointer (some e)] 103))
  (by rw[World.cell?_alloc_at _ _ _ _ (by simp)];rfl)
  (by rw[World.cell?_alloc_lt _ _ t (by simp;omega),World.cell?_alloc_lt _ _ t (by simp;omega),World.cell?_alloc_lt _ _ t (by simp;omega),World.cell?_alloc_lt _ _ t htl];exact ht0)
  (by rw[World.frozen?_alloc_old _ _ t (by simp;omega),World.frozen?_alloc_old _ _ t (by simp;omega),World.frozen?_alloc_old _ _ t (by simp;omega),World.frozen?_alloc_old _ _ t (Nat.ne_of_lt htl)];exact hf0)
 go_enter func63,ntmps63
 go_wp2
 refine wp_loop_rounds 1 ?_;rw[rounds_succ];go_wp2
 go_ret
 exact⟨rfl,rfl⟩
end Go.Proofs.YtnncigmpcdehnaaGreatDoor
