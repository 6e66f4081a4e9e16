import Derived.Test.YtnncigmpcdehnaaGreatDoorQf48
import Derived.Shelf.Vars
import Derived.Stop.LaidErr
import Derived.Lib.LaidTab
import Derived.LaidMore
import Derived.Lay
import Derived.LaidByTextLater
import Derived.LaidHandle
namespace Go.Proofs.YtnncigmpcdehnaaGreatDoor
set_option maxRecDepth 100000
open Go.RowKit Go.Lib Go.ChangeShapes Go.WideShapes Go.Deep _root_.Go.Proofs.Tryz
section
variable{H:Type}{enc:TypeId×Value→H}{w:World}{base:Nat}{spare:Nat→Bool}{held:Bool}{fuel:Nat}{cs:List Value}{y:DataW H×List MemPlace}
theorem So:prog.cellsOf 5=1:=by kernel_rfl
theorem Sp:prog.cellsOf 4=1:=by kernel_rfl
theorem Pc:prog.cellsOf 3=1:=by kernel_rfl
theorem KN:prog.cellsOf 22=16:=by kernel_rfl
theorem KM:prog.cellsOf 24=17:=by kernel_rfl
theorem QD:prog.cellsOf 29=18:=by kernel_rfl
theorem wf_i64{k:Int}(h:(Lit.int .i64 k).wf=true) : -9223372036854775808≤k∧k≤9223372036854775807:=by
 simpa[Lit.wf,IntKind.min,IntKind.max,IntKind.signed,IntKind.bits]using h
theorem wf_u8{k:Int}(h:(Lit.int .u8 k).wf=true):∃m:Nat,k=m∧m < 256:=by
 have:0≤k∧k≤255:=by simpa[Lit.wf,IntKind.min,IntKind.max,IntKind.signed,IntKind.bits]using h
 exact⟨k.toNat,by omega,by omega⟩
theorem iU(h:DataW.trod enc prog w base spare held fuel 3 cs=some y):∃k,cs=[.int .i64 k] ∧ -9223372036854775808≤k∧k≤9223372036854775807:=by
 obtain⟨k,e,_,hw⟩:=DataW.trod_int underlying3 h
 exact⟨k,e,wf_i64 hw⟩
theorem Cp(h:DataW.trod enc prog w base spare held fuel 22 cs=some y):∃f:Nat→Nat,(∀i,f i < 256)∧cs=(List.range 16).map fun j=>.int .u8 (f j:Int):=by
 obtain⟨xs,m,_,_,hl,hx,hf⟩:=DataW.trod_array underlying22 h
 rw[KN]at hl
 rw[So]at hf
 have hc:∀i,i < 16→∃m:Nat,m < 256∧cs[i]?=some (.int .u8 (m:Int)):=fun i hi=>by
  have hfi:=hf i hi
  obtain⟨z,hz⟩:∃z,xs[i]?=some z:=⟨_,List.getElem?_eq_getElem (by omega)⟩
  rw[hz]at hfi
  obtain⟨k,e,_,hw⟩:=DataW.trod_int underlying5 hfi
  obtain⟨m,rfl,hm⟩:=wf_u8 hw
  refine⟨m,hm,?_⟩
  have:=congrArg (fun l=>l[0]?) e
  simpa[List.getElem?_take,List.getElem?_drop]using this
 refine⟨fun i=>if h:i < 16 then(hc i h).choose else 0,fun i=>?_,?_⟩
 ·by_cases h:i < 16
  ·simp only[dif_pos h];exact(hc i h).choose_spec.1
  ·simp only[dif_neg h];omega
 ·apply List.ext_getElem?
  intro i
  by_cases h:i < 16
  ·rw[(hc i h).choose_spec.2]
   simp[h]
  ·rw[List.getElem?_eq_none (by omega),List.getElem?_eq_none (by simp;omega)]
theorem Ic(h:DataW.trod enc prog w base spare held fuel 24 cs=some y):∃v n,n < 2^128∧cs=cH v n:=by
 obtain⟨xs,m,_,_,hl,hx,hf⟩:=DataW.trod_struct underlying24 h
 rw[KM]at hl
 have h0:DataW.trod enc prog w base spare held m 4 ((cs.drop 0).take (prog.cellsOf 4))=xs[0]?:=hf 0 _ rfl
 have h1:DataW.trod enc prog w base spare held m 22 ((cs.drop 1).take (prog.cellsOf 22))=xs[1]?:=hf 1 _ rfl
 rw[Sp]at h0
 rw[KN]at h1
 obtain⟨z0,hz0⟩:∃z,xs[0]?=some z:=⟨_,List.getElem?_eq_getElem (by rw[hx];decide)⟩
 obtain⟨z1,hz1⟩:∃z,xs[1]?=some z:=⟨_,List.getElem?_eq_getElem (by rw[hx];decide)⟩
 rw[hz0]at h0
 rw[hz1]at h1
 obtain⟨v,e0,_⟩:=DataW.trod_bool underlying4 h0
 obtain⟨f,hf256,e1⟩:=Cp h1
 obtain⟨n,hn,hb⟩:=xO f hf256
 refine⟨v,n,hn,?_⟩
 match cs,hl with
 |c::r,hl=>
  simp at e0 hl
  subst e0
  rw[List.drop_one,List.tail_cons,List.take_of_length_le (by omega)]at e1
  rw[e1]
  unfold cH aE
  congr 1
  apply List.map_congr_left
  intro j hj
  rw[hb j (by simpa using hj)]
theorem tD(h:DataW.trod enc prog w base spare held fuel 29 cs=some y):∃v n k,n < 2^128∧(-9223372036854775808≤k∧k≤9223372036854775807)∧cs=dm v n k:=by
 obtain⟨xs,m,_,_,hl,hx,hf⟩:=DataW.trod_struct underlying29 h
 rw[QD]at hl
 have h0:DataW.trod enc prog w base spare held m 24 ((cs.drop 0).take (prog.cellsOf 24))=xs[0]?:=hf 0 _ rfl
 have h1:DataW.trod enc prog w base spare held m 3 ((cs.drop 17).take (prog.cellsOf 3))=xs[1]?:=hf 1 _ rfl
 rw[KM]at h0
 rw[Pc]at h1
 obtain⟨z0,hz0⟩:∃z,xs[0]?=some z:=⟨_,List.getElem?_eq_getElem (by rw[hx];decide)⟩
 obtain⟨z1,hz1⟩:∃z,xs[1]?=some z:=⟨_,List.getElem?_eq_getElem (by rw[hx];decide)⟩
 rw[hz0]at h0
 rw[hz1]at h1
 obtain⟨v,n,hn,e0⟩:=Ic h0
 obtain⟨k,e1,hk⟩:=iU h1
 refine⟨v,n,k,hn,hk,?_⟩
 rw[List.drop_zero]at e0
 rw[List.take_of_length_le (by simp;omega)]at e1
 rw[←List.take_append_drop 17 cs,e0,e1]
 rfl
theorem QM{t:TypeId}{v:Value}{b0:Nat}(ht:(∃fs,prog.underlying t=some (.struct fs))∨∃n e,prog.underlying t=some (.array n e))(hv:Value.okWide prog w .any b0 t v):∃cs:Array Value,v=.agg cs:=by
 rcases ht with⟨fs,ht⟩ | ⟨n,e,ht⟩
 ·obtain⟨cs,h,_⟩:=okWide_struct ht hv
  exact⟨cs,h⟩
 ·simp only[Value.okWide,ht]at hv
  obtain⟨cs,h,_⟩:=hv
  exact⟨cs,h⟩
theorem QB:prog.cellsOf 64=2:=by kernel_rfl
theorem QA:prog.cellsOf 66=44:=by kernel_rfl
theorem KL:prog.cellsOf 81=49:=by kernel_rfl
theorem Fv:prog.cellsOf 118=19:=by kernel_rfl
theorem Oe:prog.cellsOf 120=3:=by kernel_rfl
theorem Fu:prog.cellsOf 122=4:=by kernel_rfl
theorem Ft:prog.cellsOf 124=3:=by kernel_rfl
theorem QC:prog.cellsOf 46=6:=by kernel_rfl
def gl{α:Type}(l:List α):Nat→List Nat→List α
 |_,[]=>[]
 |off,s::r=>(l.drop off).take s++gl l (off+s) r
theorem O2{α:Type}(l:List α):∀(ss:List Nat) (off:Nat),off+ss.sum=l.length→gl l off ss=l.drop off
 | [],off,h=>by
  have:off=l.length:=by simpa using h
  rw[this,List.drop_length];rfl
 |s::r,off,h=>by
  rw[gl,O2 l r (off+s) (by rw[List.sum_cons]at h;omega)]
  have:=List.take_append_drop s (l.drop off)
  rw[List.drop_drop]at this
  exact this
theorem nE{α:Type}{l:List α}{ss:List Nat}(h:l.length=ss.sum):l=gl l 0 ss:=by rw[O2 l ss 0 (by omega)];rfl
theorem KT(d:DataW H):1≤Rows.uptoBulk d:=by
 cases d with
 |lit x=>cases x<;>simp[Rows.uptoBulk]
 |_=>simp[Rows.uptoBulk]
theorem vR{d:DataW H}:∀{ds:List (DataW H)},d∈ds→Rows.uptoBulk d≤Rows.uptoBulkAll ds
 |x::r,h=>by
  rw[Rows.uptoBulkAll]
  rcases List.mem_cons.1 h with rfl|h
  ·omega
  ·have:=vR h;omega
theorem BP:∀(ds:List (DataW H)),ds.length≤Rows.uptoBulkAll ds
 | []=>Nat.le_refl _
 |x::r=>by
  have:=BP r
  have:=KT x
  rw[Rows.uptoBulkAll,List.length_cons];omega
theorem fC{t:Nat}{fs:Array Field}(ht:prog.underlying t=some (.struct fs))(h:DataW.trod enc prog w base spare held fuel t cs=some y) :
  ∃(xs:List (DataW H×List MemPlace)) (m:Nat),y.1=.agg (xs.map (·.1))∧xs.length=fs.size∧cs.length=prog.cellsOf t∧∀(i:Nat) (f:Field),fs[i]?=some f→∃z,xs[i]?=some z∧DataW.trod enc prog w base spare held m f.type ((cs.drop f.offset).take (prog.cellsOf f.type))=some z∧Rows.uptoBulk z.1≤Rows.uptoBulk y.1:=by
 obtain⟨xs,m,_,hy,hl,hx,hf⟩:=DataW.trod_struct ht h
 refine⟨xs,m,by rw[hy],hx,hl,fun i f hif=>?_⟩
 have hi:i < xs.length:=by rw[hx];exact(Array.getElem?_eq_some_iff.1 hif).1
 refine⟨xs[i],List.getElem?_eq_getElem hi,(hf i f hif).trans (List.getElem?_eq_getElem hi),?_⟩
 rw[hy]
 show _≤Rows.uptoBulkAll (xs.map (·.1))+1
 have:=vR (H:=H) (d:=xs[i].1) (ds:=xs.map (·.1)) (List.mem_map.2 ⟨xs[i],List.getElem_mem hi,rfl⟩)
 omega
theorem wf_u16{k:Int}(h:(Lit.int .u16 k).wf=true):∃m:Nat,k=m∧m≤65535:=by
 have:0≤k∧k≤65535:=by simpa[Lit.wf,IntKind.min,IntKind.max,IntKind.signed,IntKind.bits]using h
 exact⟨k.toNat,by omega,by omega⟩
theorem wf_u64{k:Int}(h:(Lit.int .u64 k).wf=true):∃m:Nat,k=m∧m≤18446744073709551615:=by
 have:0≤k∧k≤18446744073709551615:=by simpa[Lit.wf,IntKind.min,IntKind.max,IntKind.signed,IntKind.bits]using h
 exact⟨k.toNat,by omega,by omega⟩
theorem Eb(h:DataW.trod enc prog w base spare held fuel 5 cs=some y):∃m:Nat,cs=[.int .u8 (m:Int)]∧m < 256:=by
 obtain⟨k,e,_,hw⟩:=DataW.trod_int underlying5 h
 obtain⟨m,rfl,hm⟩:=wf_u8 hw
 exact⟨m,e,hm⟩
theorem zE(h:DataW.trod enc prog w base spare held fuel 62 cs=some y):∃m:Nat,cs=[.int .u16 (m:Int)]∧m≤65535:=by
 obtain⟨k,e,_,hw⟩:=DataW.trod_int underlying62 h
 obtain⟨m,rfl,hm⟩:=wf_u16 hw
 exact⟨m,e,hm⟩
theorem tC(h:DataW.trod enc prog w base spare held fuel 89 cs=some y):∃m:Nat,cs=[.int .u64 (m:Int)]∧m≤18446744073709551615:=by
 obtain⟨k,e,_,hw⟩:=DataW.trod_int underlying89 h
 obtain⟨m,rfl,hm⟩:=wf_u64 hw
 exact⟨m,e,hm⟩
theorem mJ(h:DataW.trod enc prog w base spare held fuel 9 cs=some y):∃s:Bs,cs=[ab s]∧s.length≤maxLen∧s.length≤Rows.uptoBulk y.1:=by
 obtain⟨s,e,hy,hs⟩:=DataW.trod_string underlying9 h
 refine⟨s.data.toList,by rw[e];unfold ab;rw[Array.toArray_toList],by rw[Array.length_toList];exact hs,?_⟩
 rw[hy]
 exact Nat.le_succ _
theorem qX(h:DataW.trod enc prog w base spare held fuel 64 cs=some y):∃a b:Nat,cs=[.int .u16 (a:Int),.int .u16 (b:Int)]∧a≤65535∧b≤65535:=by
 obtain⟨xs,m,_,_,hl,hf⟩:=fC underlying64 h
 rw[QB]at hl
 obtain⟨z0,_,h0,_⟩:=hf 0 _ rfl
 obtain⟨z1,_,h1,_⟩:=hf 1 _ rfl
 obtain⟨a,e0,ha⟩:=zE h0
 obtain⟨b,e1,hb⟩:=zE h1
 refine⟨a,b,?_,ha,hb⟩
 rw[nE (l:=cs) (ss:=[1,1]) hl]
 show(cs.drop 0).take (prog.cellsOf 62)++((cs.drop 1).take (prog.cellsOf 62)++[])=_
 rw[show(cs.drop 0).take (prog.cellsOf 62)=_ from e0,show(cs.drop 1).take (prog.cellsOf 62)=_ from e1];rfl
theorem L8(h:DataW.trod enc prog w base spare held fuel 66 cs=some y):∃m:Mt,m.Wf∧cs=m.cells:=by
 obtain⟨xs,k,_,_,hl,hf⟩:=fC underlying66 h
 rw[QA]at hl
 obtain⟨_,_,h0,_⟩:=hf 0 _ rfl
 obtain⟨_,_,h1,_⟩:=hf 1 _ rfl
 obtain⟨_,_,h2,_⟩:=hf 2 _ rfl
 obtain⟨_,_,h3,_⟩:=hf 3 _ rfl
 obtain⟨_,_,h4,_⟩:=hf 4 _ rfl
 obtain⟨_,_,h5,_⟩:=hf 5 _ rfl
 obtain⟨_,_,h6,_⟩:=hf 6 _ rfl
 obtain⟨a0,e0,b0⟩:=Eb h0
 obtain⟨a1,c1,e1,b1⟩:=qX h1
 obtain⟨v2,n2,k2,b2,d2,e2⟩:=tD h2
 obtain⟨v3,n3,k3,b3,d3,e3⟩:=tD h3
 obtain⟨a4,e4,b4⟩:=Eb h4
 obtain⟨a5,c5,e5,b5⟩:=qX h5
 obtain⟨a6,c6,e6,b6⟩:=qX h6
 refine⟨⟨a0,(a1,c1),⟨v2,n2,k2⟩,⟨v3,n3,k3⟩,a4,(a5,c5),(a6,c6)⟩,⟨b0,b2,d2,b3,d3,b1,b5,b6,by show a4≤255;omega⟩,?_⟩
 rw[nE (l:=cs) (ss:=[1,2,18,18,1,2,2]) hl]
 show(cs.drop 0).take (prog.cellsOf 5)++((cs.drop 1).take (prog.cellsOf 64)++((cs.drop 3).take (prog.cellsOf 29)++((cs.drop 21).take (prog.cellsOf 29)++((cs.drop 39).take (prog.cellsOf 5)++((cs.drop 40).take (prog.cellsOf 64)++((cs.drop 42).take (prog.cellsOf 64)++[]))))))=_
 rw[show(cs.drop 0).take (prog.cellsOf 5)=_ from e0,show(cs.drop 1).take (prog.cellsOf 64)=_ from e1,show(cs.drop 3).take (prog.cellsOf 29)=_ from e2,show(cs.drop 21).take (prog.cellsOf 29)=_ from e3,show(cs.drop 39).take (prog.cellsOf 5)=_ from e4,show(cs.drop 40).take (prog.cellsOf 64)=_ from e5,show(cs.drop 42).take (prog.cellsOf 64)=_ from e6]
 rfl
def TE(r:Rl)(N:Nat):Prop:=r.name.length≤N∧r.bC.length≤N∧r.aP.length≤N
theorem LZ(h:DataW.trod enc prog w base spare held fuel 81 cs=some y):∃r:Rl,(r.Wf∧TE r (Rows.uptoBulk y.1))∧cs=r.cells:=by
 obtain⟨xs,k,_,_,hl,hf⟩:=fC underlying81 h
 rw[KL]at hl
 obtain⟨_,_,h0,z0⟩:=hf 0 _ rfl
 obtain⟨_,_,h1,_⟩:=hf 1 _ rfl
 obtain⟨_,_,h2,_⟩:=hf 2 _ rfl
 obtain⟨_,_,h3,_⟩:=hf 3 _ rfl
 obtain⟨_,_,h4,z4⟩:=hf 4 _ rfl
 obtain⟨_,_,h5,z5⟩:=hf 5 _ rfl
 obtain⟨s0,e0,b0,t0⟩:=mJ h0
 obtain⟨m,hm,e1⟩:=L8 h1
 obtain⟨k2,e2,b2⟩:=iU h2
 obtain⟨k3,e3,b3⟩:=iU h3
 obtain⟨s4,e4,b4,t4⟩:=mJ h4
 obtain⟨s5,e5,b5,t5⟩:=mJ h5
 refine⟨⟨s0,m,k2,k3,s4,s5⟩,⟨⟨b0,hm,b2,b3,b4,b5⟩,Nat.le_trans t0 z0,Nat.le_trans t4 z4,Nat.le_trans t5 z5⟩,?_⟩
 rw[nE (l:=cs) (ss:=[1,44,1,1,1,1]) hl]
 show(cs.drop 0).take (prog.cellsOf 9)++((cs.drop 1).take (prog.cellsOf 66)++((cs.drop 45).take (prog.cellsOf 3)++((cs.drop 46).take (prog.cellsOf 3)++((cs.drop 47).take (prog.cellsOf 9)++((cs.drop 48).take (prog.cellsOf 9)++[])))))=_
 rw[show(cs.drop 0).take (prog.cellsOf 9)=_ from e0,show(cs.drop 1).take (prog.cellsOf 66)=_ from e1,show(cs.drop 45).take (prog.cellsOf 3)=_ from e2,show(cs.drop 46).take (prog.cellsOf 3)=_ from e3,show(cs.drop 47).take (prog.cellsOf 9)=_ from e4,show(cs.drop 48).take (prog.cellsOf 9)=_ from e5]
 rfl
theorem LY(h:DataW.trod enc prog w base spare held fuel 118 cs=some y):∃r:Rt,r.Wf∧cs=r.cells:=by
 obtain⟨xs,k,_,_,hl,hf⟩:=fC underlying118 h
 rw[Fv]at hl
 obtain⟨_,_,h0,_⟩:=hf 0 _ rfl
 obtain⟨_,_,h1,_⟩:=hf 1 _ rfl
 obtain⟨v,n,k0,b0,d0,e0⟩:=tD h0
 obtain⟨k1,e1,b1⟩:=iU h1
 refine⟨⟨⟨v,n,k0⟩,k1⟩,⟨b0,d0,b1⟩,?_⟩
 rw[nE (l:=cs) (ss:=[18,1]) hl]
 show(cs.drop 0).take (prog.cellsOf 29)++((cs.drop 18).take (prog.cellsOf 3)++[])=_
 rw[show(cs.drop 0).take (prog.cellsOf 29)=_ from e0,show(cs.drop 18).take (prog.cellsOf 3)=_ from e1]
 rfl
theorem Mc(h:DataW.trod enc prog w base spare held fuel 120 cs=some y):∃a b c:Nat,a≤18446744073709551615∧b≤18446744073709551615∧c≤18446744073709551615∧cs=[.int .u64 (a:Int),.int .u64 (b:Int),.int .u64 (c:Int)]:=by
 obtain⟨xs,k,_,_,hl,hf⟩:=fC underlying120 h
 rw[Oe]at hl
 obtain⟨_,_,h0,_⟩:=hf 0 _ rfl
 obtain⟨_,_,h1,_⟩:=hf 1 _ rfl
 obtain⟨_,_,h2,_⟩:=hf 2 _ rfl
 obtain⟨a,e0,b0⟩:=tC h0
 obtain⟨b,e1,b1⟩:=tC h1
 obtain⟨c,e2,b2⟩:=tC h2
 refine⟨a,b,c,b0,b1,b2,?_⟩
 rw[nE (l:=cs) (ss:=[1,1,1]) hl]
 show(cs.drop 0).take (prog.cellsOf 89)++((cs.drop 1).take (prog.cellsOf 89)++((cs.drop 2).take (prog.cellsOf 89)++[]))=_
 rw[show(cs.drop 0).take (prog.cellsOf 89)=_ from e0,show(cs.drop 1).take (prog.cellsOf 89)=_ from e1,show(cs.drop 2).take (prog.cellsOf 89)=_ from e2]
 rfl
theorem Ma(h:DataW.trod enc prog w base spare held fuel 122 cs=some y):∃r:Me,(r.Wf∧r.name.length≤Rows.uptoBulk y.1)∧cs=r.cells:=by
 obtain⟨xs,k,_,_,hl,hf⟩:=fC underlying122 h
 rw[Fu]at hl
 obtain⟨_,_,h0,z0⟩:=hf 0 _ rfl
 obtain⟨_,_,h1,_⟩:=hf 1 _ rfl
 obtain⟨s0,e0,b0,t0⟩:=mJ h0
 obtain⟨a,b,c,ha,hb,hc,e1⟩:=Mc h1
 refine⟨⟨s0,a,b,c⟩,⟨⟨b0,ha,hb,hc⟩,Nat.le_trans t0 z0⟩,?_⟩
 rw[nE (l:=cs) (ss:=[1,3]) hl]
 show(cs.drop 0).take (prog.cellsOf 9)++((cs.drop 1).take (prog.cellsOf 120)++[])=_
 rw[show(cs.drop 0).take (prog.cellsOf 9)=_ from e0,show(cs.drop 1).take (prog.cellsOf 120)=_ from e1]
 rfl
theorem L9(h:DataW.trod enc prog w base spare held fuel 124 cs=some y):∃r:Mi,(r.Wf∧r.name.length≤Rows.uptoBulk y.1)∧cs=r.cells:=by
 obtain⟨xs,k,_,_,hl,hf⟩:=fC underlying124 h
 rw[Ft]at hl
 obtain⟨_,_,h0,z0⟩:=hf 0 _ rfl
 obtain⟨_,_,h1,_⟩:=hf 1 _ rfl
 obtain⟨_,_,h2,_⟩:=hf 2 _ rfl
 obtain⟨s0,e0,b0,t0⟩:=mJ h0
 obtain⟨k1,e1,b1⟩:=iU h1
 obtain⟨k2,e2,b2⟩:=iU h2
 refine⟨⟨s0,k1,k2⟩,⟨⟨b0,b1,b2⟩,Nat.le_trans t0 z0⟩,?_⟩
 rw[nE (l:=cs) (ss:=[1,1,1]) hl]
 show(cs.drop 0).take (prog.cellsOf 9)++((cs.drop 1).take (prog.cellsOf 3)++((cs.drop 2).take (prog.cellsOf 3)++[]))=_
 rw[show(cs.drop 0).take (prog.cellsOf 9)=_ from e0,show(cs.drop 1).take (prog.cellsOf 3)=_ from e1,show(cs.drop 2).take (prog.cellsOf 3)=_ from e2]
 rfl
theorem lg{α:Type}{t e S:Nat}(hu:prog.underlying t=some (.slice e))(hc:prog.cellsOf e=S)(hS:0 < S){f:α→List Value}(hf:∀x,(f x).length=S){good:α→Nat→Prop}(mono:∀x N N',N≤N'→good x N→good x N')
  (dec:∀fuel cs y,DataW.trod enc prog w base spare held fuel e cs=some y→∃x,good x (Rows.uptoBulk y.1)∧cs=f x) (h:DataW.trod enc prog w base spare held fuel t cs=some y) :
  ∃(A:Option Addr) (c:Nat) (L:List α),cs=[.slice A L.length c]∧(∀x∈L,good x (Rows.uptoBulk y.1))∧L.length≤Rows.uptoBulk y.1∧kV w [] S (.slice A L.length c) L.length (L.flatMap f):=by
 rcases open_slice hu h with⟨rfl,rfl⟩ | ⟨a,len,cap,m,n,D,Pl,rfl,_,hl,hm,hmm,hy,hcell⟩
 ·exact⟨none,0,[],rfl,fun x hx=>(by cases hx),Nat.zero_le _,⟨by simp,none,0,rfl,fun h=>absurd h (by simp)⟩⟩
 ·have hle:len≤m:=by rw[hmm];split<;>omega
  have hyb:Rows.uptoBulk y.1=Rows.uptoBulkAll ((List.range len).map D)+Rows.uptoBulkAll ((List.range (m - len)).map fun j=>D (len+j))+1:=by rw[hy]; rfl
  have hlenb:len≤Rows.uptoBulk y.1:=by
   have:=BP ((List.range len).map D)
   rw[List.length_map,List.length_range]at this
   omega
  have one:∀i:Fin len,∃x:α,good x (Rows.uptoBulk y.1)∧∀c,c < S→w.cell? ((a.add (i.1*S)).add c)=(f x)[c]?:=by
   intro i
   obtain⟨cs',hcs',ht⟩:=hcell i.1 (by have:=i.2;omega)
   rw[hc]at hcs'
   obtain⟨_,_,hat⟩:=World.cells?_some hcs'
   obtain⟨x,hx,rfl⟩:=dec _ _ _ ht
   refine⟨x,mono _ _ _ ?_ hx,hat⟩
   have:=vR (d:=D i.1) (ds:=(List.range len).map D) (List.mem_map.2 ⟨i.1,List.mem_range.2 i.2,rfl⟩)
   show Rows.uptoBulk (D i.1)≤_
   omega
  refine⟨some a,cap,List.ofFn fun i=>(one i).choose,by simp,fun x hx=>?_,by simpa using hlenb,⟨by rw[uu hf],some a,cap,rfl,fun h0=>?_⟩⟩
  ·rw[List.mem_ofFn]at hx
   obtain⟨i,rfl⟩:=hx
   exact(one i).choose_spec.1
  ·rw[List.length_ofFn]at h0
   obtain⟨b,o,spot⟩:=a
   have hat0:=(one ⟨0,h0⟩).choose_spec.2 0 hS
   rw[List.getElem?_eq_getElem (by rw[hf];exact hS)]at hat0
   have hspot:spot=none:=by simpa[Addr.add]using World.cell?_spot hat0
   subst hspot
   have hb:=World.block_lt_of_cell? _ _ hat0
   refine⟨b,o,rfl,by simp,by simpa[Addr.add]using hb,fun j u hu=>?_⟩
   have hjl:=(List.getElem?_eq_some_iff.1 hu).1
   rw[uu hf,List.length_ofFn]at hjl
   have hi:j / S < len:=Nat.div_lt_of_lt_mul (by rw[Nat.mul_comm]; exact hjl)
   have hj:j / S*S+j%S=j:=by rw[Nat.mul_comm]; exact Nat.div_add_mod j S
   have hc2:j%S < S:=Nat.mod_lt _ hS
   have hat:=(one ⟨j / S,hi⟩).choose_spec.2 (j%S) hc2
   have hget:(List.ofFn fun i=>(one i).choose)[j / S]?=some (one ⟨j / S,hi⟩).choose:=by rw[List.getElem?_ofFn]; simp[hi]
   have:=Ez hf hget hc2
   rw[hj]at this
   rw[this,←hat]at hu
   rw[Addr.add_lit,Addr.add_lit]at hu
   rw[show o+j=o+j / S*S+j%S by omega]
   exact hu
theorem Jj{l:List Int}:l.flatMap (fun n=>[Value.int .i64 n])=l.map fun n=>.int .i64 n:=by
 induction l with
 |nil=>rfl
 |cons a l ih=>rw[List.flatMap_cons,ih];rfl
theorem Bj{t:Nat}{fs:Array Field}(ht:prog.underlying t=some (.struct fs))(h:DataW.trod enc prog w base spare held fuel t cs=some y) :
  ∃(xs:List (DataW H×List MemPlace)) (m:Nat),Rows.uptoBulk y.1=Rows.uptoBulkAll (xs.map (·.1))+1∧xs.length=fs.size∧cs.length=prog.cellsOf t∧∀(i:Nat) (f:Field),fs[i]?=some f→DataW.trod enc prog w base spare held m f.type ((cs.drop f.offset).take (prog.cellsOf f.type))=xs[i]?:=by
 obtain⟨xs,m,_,hy,hl,hx,hf⟩:=DataW.trod_struct ht h
 exact⟨xs,m,by rw[hy];rfl,hx,hl,hf⟩
theorem Mb(h:DataW.trod enc prog w base spare held fuel 46 cs=some y):∃(cf:CF) (s:ey),cs=al cf s∧dj w [] cf s∧da cf∧FF cf (Rows.uptoBulk y.1)∧KK cf≤Rows.uptoBulk y.1:=by
 obtain⟨xs,k,hy,hx,hl,hf⟩:=Bj underlying46 h
 rw[QC]at hl
 have hx:xs.length=6:=hx
 match xs,hx with
 | [z0,z1,z2,z3,z4,z5],_=>
  have h0:DataW.trod enc prog w base spare held k 40 ((cs.drop 0).take (prog.cellsOf 40))=some z0:=hf 0 _ rfl
  have h1:DataW.trod enc prog w base spare held k 41 ((cs.drop 1).take (prog.cellsOf 41))=some z1:=hf 1 _ rfl
  have h2:DataW.trod enc prog w base spare held k 42 ((cs.drop 2).take (prog.cellsOf 42))=some z2:=hf 2 _ rfl
  have h3:DataW.trod enc prog w base spare held k 43 ((cs.drop 3).take (prog.cellsOf 43))=some z3:=hf 3 _ rfl
  have h4:DataW.trod enc prog w base spare held k 44 ((cs.drop 4).take (prog.cellsOf 44))=some z4:=hf 4 _ rfl
  have h5:DataW.trod enc prog w base spare held k 3 ((cs.drop 5).take (prog.cellsOf 3))=some z5:=hf 5 _ rfl
  obtain⟨A0,c0,L0,e0,g0,n0,r0⟩:=lg (S:=1) underlying40 Pc (by decide) (f:=fun n:Int=>[Value.int .i64 n]) (fun _=>rfl) (good:=fun n _=>mD n) (fun _ _ _ _ h=>h) (fun fuel cs y hy=>by
   obtain⟨n,e,hn⟩:=iU hy
   exact⟨n,hn,e⟩) h0
  obtain⟨A1,c1,L1,e1,g1,n1,r1⟩:=lg (S:=19) underlying41 Fv (by decide) (f:=Rt.cells) Rt.az (good:=fun r _=>r.Wf) (fun _ _ _ _ h=>h) (fun fuel cs y hy=>LY hy) h1
  obtain⟨A2,c2,L2,e2,g2,n2,r2⟩:=lg (S:=49) underlying42 KL (by decide) (f:=Rl.cells) Rl.az (good:=fun r N=>r.Wf∧TE r N) (fun _ _ _ hn h=>⟨h.1,Nat.le_trans h.2.1 hn,Nat.le_trans h.2.2.1 hn,Nat.le_trans h.2.2.2 hn⟩) (fun fuel cs y hy=>LZ hy) h2
  obtain⟨A3,c3,L3,e3,g3,n3,r3⟩:=lg (S:=4) underlying43 Fu (by decide) (f:=Me.cells) Me.az (good:=fun r N=>r.Wf∧r.name.length≤N) (fun _ _ _ hn h=>⟨h.1,Nat.le_trans h.2 hn⟩) (fun fuel cs y hy=>Ma hy) h3
  obtain⟨A4,c4,L4,e4,g4,n4,r4⟩:=lg (S:=3) underlying44 Ft (by decide) (f:=Mi.cells) Mi.az (good:=fun r N=>r.Wf∧r.name.length≤N) (fun _ _ _ hn h=>⟨h.1,Nat.le_trans h.2 hn⟩) (fun fuel cs y hy=>L9 hy) h4
  obtain⟨d,e5,b5⟩:=iU h5
  rw[Jj]at r0
  simp only[List.map_cons,List.map_nil,Rows.uptoBulkAll]at hy
  refine⟨⟨L0,L1,L2,L3,L4,d⟩,⟨⟨A0,c0⟩,⟨A1,c1⟩,⟨A2,c2⟩,⟨A3,c3⟩,⟨A4,c4⟩⟩,?_,⟨r0,r1,r2,r3,r4⟩,⟨g0,g1,fun r hr=>(g2 r hr).1,fun r hr=>(g3 r hr).1,fun r hr=>(g4 r hr).1,b5⟩,⟨fun r hr=>Nat.le_trans (g3 r hr).2 (by omega),fun r hr=>Nat.le_trans (g4 r hr).2 (by omega),fun r hr=>?_⟩,?_⟩
  ·rw[nE (l:=cs) (ss:=[1,1,1,1,1,1]) hl]
   show(cs.drop 0).take (prog.cellsOf 40)++((cs.drop 1).take (prog.cellsOf 41)++((cs.drop 2).take (prog.cellsOf 42)++((cs.drop 3).take (prog.cellsOf 43)++((cs.drop 4).take (prog.cellsOf 44)++((cs.drop 5).take (prog.cellsOf 3)++[])))))=_
   rw[show(cs.drop 0).take (prog.cellsOf 40)=_ from e0,show(cs.drop 1).take (prog.cellsOf 41)=_ from e1,show(cs.drop 2).take (prog.cellsOf 42)=_ from e2,show(cs.drop 3).take (prog.cellsOf 43)=_ from e3,show(cs.drop 4).take (prog.cellsOf 44)=_ from e4,show(cs.drop 5).take (prog.cellsOf 3)=_ from e5]
   rfl
  ·obtain⟨_,a,b,c⟩:=g2 r hr
   exact⟨Nat.le_trans a (by omega),Nat.le_trans b (by omega),Nat.le_trans c (by omega)⟩
  ·show L0.length+L1.length+L2.length+L3.length+L4.length≤_
   omega
theorem Nf{v:Value}{d:DataW H}{p:List MemPlace}{b0:Nat}(hv:Value.okWide prog w .any b0 46 v)(h:DataW.Trod enc prog w base spare held 46 v d p):∃(cf:CF) (s:ey),v=.agg (al cf s).toArray∧dj w [] cf s∧da cf∧FF cf (Rows.uptoBulk d)∧KK cf≤Rows.uptoBulk d:=by
 obtain⟨cs,rfl⟩:=QM (.inl ⟨_,underlying46⟩) hv
 obtain⟨fuel,hf⟩:=h
 obtain⟨cf,s,e,h1,h2,h3,h4⟩:=Mb hf
 exact⟨cf,s,by rw[←e];simp[Value.cells],h1,h2,h3,h4⟩
end
set_option maxRecDepth 100000
open Go.RowKit Go.Lib Go.Sort Go.ChangeShapes Go.WideShapes _root_.Go.Proofs.Tryz
theorem vj{P:Program}{W:World}{n nm:String}{d:DataW Unit}{r:List (String×DataW Unit)}{g ti:Nat}{ms:Array (String×TypeId)}(h:laidMet P ((n,.iface nm d)::r) W)(hg:P.globalNamed n=some g)(ht:(P.globals[g]?).map (·.type)=some ti)(hi:P.underlying ti=some (.interface ms)) :
  ∃te pe,W.cell? ⟨g,0,none⟩=some (.iface te pe):=by
 obtain⟨ps,⟨g0,t0,cs0,f0,p0,q0,hg0,ht0,hv0,hd0,_,e0⟩,_,hrows⟩:=h
 obtain rfl:=Option.some.inj (hg.symm.trans hg0)
 obtain rfl:=Option.some.inj (ht.symm.trans ht0)
 obtain⟨l0⟩:=cs0
 obtain⟨f1,u,v,e,_,_⟩:=iface_of_trod hi hd0
 refine⟨u,v,?_⟩
 simp only at e
 subst e
 simpa using World.var?_cell hg0 hv0 0
def EV:List (String×DataW Unit):=Rows.langReadsRow.laid
def Q9:List Int:=[0,1,56,2,57,49,28,3,61,58,42,50,38,29,17,4,62,47,59,36,45,43,51,22,53,39,33,30,24,18,12,5,63,55,48,27,60,41,37,16,46,35,44,21,52,32,23,11,54,26,40,15,34,20,31,10,25,14,19,9,13,8,7,6]
theorem NQ:1 < prog.globals.size:=of_decide_eq_true (by kernel_rfl)
theorem NO:8 < prog.globals.size:=of_decide_eq_true (by kernel_rfl)
theorem Q4:(((begin prog (fun _ _=>0) default).world.heap[8]?).bind Obj.row?).isSome=true:=by kernel_rfl
theorem GW:prog.globalNamed "errors.errorType"=some 0:=by kernel_rfl
theorem MB:(prog.cutTypes.find? (·.1== "internal/reflectlite.rtype")).map (·.2)=some 242:=by kernel_rfl
theorem types_size:prog.types.size=330:=by kernel_rfl
theorem P3:((List.range 330).filter fun t=>prog.rowNamed t [101,114,114,111,114])=[48]:=by kernel_rfl
theorem vk{W:World}(h:handlesMet prog [("errors.errorType",Rows.laid_errors_errorType)] W):W.cell? ⟨0,0,none⟩=some (.iface 242 (.agg #[.pointer (some ⟨9,48,none⟩)])):=by
 obtain⟨name,u,ty,e1,e2,e3,e4,e5⟩:=h _ (List.mem_singleton.2 rfl)
 have en:name=[101,114,114,111,114]:=(Option.some.inj e1).symm
 subst en
 obtain rfl:=Option.some.inj (MB.symm.trans e2)
 have hm:ty∈(List.range 330).filter fun t=>prog.rowNamed t [101,114,114,111,114]:=List.mem_filter.2 ⟨List.mem_range.2 (by rw[←types_size];exact e3),e4⟩
 rw[P3]at hm
 obtain rfl:=List.mem_singleton.1 hm
 have hh:typeHandle prog 48=.pointer (some ⟨9,48,none⟩):=by kernel_rfl
 rw[hh]at e5
 simpa using World.var?_cell GW e5 0
theorem NC{W:World}(hL:laidMetH prog EV W)(hS:W.ShapedOpen prog):lD W:=by
 have h':laidMet prog (("math/bits.deBruijn32tab",Rows.laid_math_bits_deBruijn32tab)::("math/bits.deBruijn64tab",Rows.laid_math_bits_deBruijn64tab)::("internal/strconv.uint64pow10",Rows.laid_internal_strconv_uint64pow10)::("unicode/utf8.acceptRanges",Rows.laid_unicode_utf8_acceptRanges)::("strconv.ErrRange",Rows.laid_strconv_ErrRange)::("strconv.ErrSyntax",Rows.laid_strconv_ErrSyntax)::("unicode/utf8.first",Rows.laid_unicode_utf8_first)::[]) W∧handlesMet prog [("errors.errorType",Rows.laid_errors_errorType)] W:=hL
 obtain⟨t0,th⟩:=h'
 have t1:=laidMet.tail t0
 have t2:=laidMet.tail t1
 have t3:=laidMet.tail t2
 have t4:=laidMet.tail t3
 have t5:=laidMet.tail t4
 have h8:Lib.TabIs prog W "math/bits.deBruijn64tab" .u8 Q9:=
  Lib.tabIs_of_head (show prog.globalNamed "math/bits.deBruijn64tab"=some 8 by kernel_rfl) (show(prog.globals[8]?).map (·.type)=some 304 by kernel_rfl) underlying304 underlying5 (by kernel_rfl) (by kernel_rfl) t1
 have h2:Lib.TabIs prog W "internal/strconv.uint64pow10" .u64 Lib.pow10Tab:=
  Lib.tabIs_of_head (show prog.globalNamed "internal/strconv.uint64pow10"=some 2 by kernel_rfl) (show(prog.globals[2]?).map (·.type)=some 285 by kernel_rfl) underlying285 underlying89 (by kernel_rfl) (by kernel_rfl) t2
 obtain⟨te2,LC,h4⟩:=vj t4 (show prog.globalNamed "strconv.ErrRange"=some 4 by kernel_rfl) (show(prog.globals[4]?).map (·.type)=some 48 by kernel_rfl) underlying48
 obtain⟨te1,Hu,h3⟩:=vj t5 (show prog.globalNamed "strconv.ErrSyntax"=some 3 by kernel_rfl) (show(prog.globals[3]?).map (·.type)=some 48 by kernel_rfl) underlying48
 have h1:=cell_of_shapedOpen_int (P:=prog) (g:=1) (t:=3) (zero:=#[.int .i64 0]) hS NQ (by kernel_rfl) rfl (by kernel_rfl) (by kernel_rfl) underlying3
 have hlow:9≤W.heap.size:=by
  obtain⟨⟨z,t⟩,hz⟩:=Option.isSome_iff_exists.1 Q4
  obtain⟨cs,hh,_⟩:=hS.1 8 z t NO hz
  have:8 < W.heap.size:=by
   rcases Nat.lt_or_ge 8 W.heap.size with h|h
   ·exact h
   ·rw[Array.getElem?_eq_none h]at hh;cases hh
  omega
 exact⟨⟨h1,⟨_,h3,.inr ⟨_,_,rfl⟩⟩,⟨_,h4,.inr ⟨_,_,rfl⟩⟩,h2,h8.cell (by kernel_rfl) 15 (by decide),hlow⟩,vk th⟩
noncomputable def xp(os:Os):World:=
 let w0:=World.holding prog os ⟨#[],#[],[]⟩
 { w0 with heap:=w0.heap.modify 0 fun
   |.cells _ t frozen=>.cells #[.iface 242 (.agg #[(pt 9 48)])] t frozen
   |o=>o }
def sj:List (String×DataW Unit):=EV.filter fun x=>x.2.handleName?.isNone
noncomputable def ow(os:Os):World:=(xp os).layVars prog sj
theorem GA(os:Os):laidMet prog sj (ow os):=by
 have e1:(sj.filter fun x=>(sj.map (·.1)).contains x.1)=sj:=List.filter_eq_self.2 fun x hx=>List.contains_iff_mem.2 (List.mem_map.2 ⟨x,hx,rfl⟩)
 have e2:(sj.filter fun x=>!(sj.map (·.1)).contains x.1)=[]:=List.filter_eq_nil_iff.2 fun x hx=>by rw[List.contains_iff_mem.2 (List.mem_map.2 ⟨x,hx,rfl⟩)];simp
 exact laidMet_layVars (w0:=xp os) (sj.map (·.1)) [] (by rw[e1];rfl) (by rw[e1];kernel_rfl) (by rw[e1];kernel_rfl) (by rw[e2];exact LaidIn.none)
theorem JO(os:Os)(args:Array Value):laidMetH prog EV ((ow os).forCall (fun _ _=>0) ⟨#[],args,[]⟩).memory:=
 laidMetH_of_parts ((GA os).of_heap (by simp[World.memory,World.forCall,Input.heap])) (by kernel_rfl)
end Go.Proofs.YtnncigmpcdehnaaGreatDoor
