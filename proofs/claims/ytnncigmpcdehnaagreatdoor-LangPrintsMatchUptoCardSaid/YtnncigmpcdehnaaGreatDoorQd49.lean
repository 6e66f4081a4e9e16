import Derived.Test.YtnncigmpcdehnaaGreatDoorQd48
import Derived.OpenShut
import Derived.ChangeMaps5
import Derived.Deep.Slices
import Derived.Shelf.Vars
import Derived.Stop.LaidErr
import Derived.Lib.LaidTab
import Derived.LaidMore
import Derived.Lay
import Derived.LaidByTextLater
import Derived.LaidHandle
namespace Go.Proofs.YtnncigmpcdehnaaGreatDoor
set_option maxRecDepth 100000
open Go.RowKit Go.Lib Go.ChangeShapes Go.WideShapes Go.Deep
section
variable{H:Type}{enc:TypeId×Value→H}{w:World}{base:Nat}{spare:Nat→Bool}{held:Bool}{fuel:Nat}{cs:List Value}{y:DataW H×List MemPlace}
theorem OF:Tryz.prog.cellsOf 5=1:=by kernel_rfl
theorem OG:Tryz.prog.cellsOf 4=1:=by kernel_rfl
theorem OH:Tryz.prog.cellsOf 3=1:=by kernel_rfl
theorem H9:Tryz.prog.cellsOf 22=16:=by kernel_rfl
theorem H8:Tryz.prog.cellsOf 24=17:=by kernel_rfl
theorem M6:Tryz.prog.cellsOf 29=18:=by kernel_rfl
theorem wf_i64{k:Int}(h:(Lit.int .i64 k).wf=true) : -9223372036854775808≤k∧k≤9223372036854775807:=by
 simpa[Lit.wf,IntKind.min,IntKind.max,IntKind.signed,IntKind.bits]using h
theorem wf_u8{k:Int}(h:(Lit.int .u8 k).wf=true):∃m:Nat,k=m∧m < 256:=by
 have:0≤k∧k≤255:=by simpa[Lit.wf,IntKind.min,IntKind.max,IntKind.signed,IntKind.bits]using h
 exact⟨k.toNat,by omega,by omega⟩
theorem Fo(h:DataW.trod enc Tryz.prog w base spare held fuel 3 cs=some y):∃k,cs=[.int .i64 k] ∧ -9223372036854775808≤k∧k≤9223372036854775807:=by
 obtain⟨k,e,_,hw⟩:=DataW.trod_int Tryz.underlying3 h
 exact⟨k,e,wf_i64 hw⟩
theorem Aj(h:DataW.trod enc Tryz.prog w base spare held fuel 22 cs=some y):∃f:Nat→Nat,(∀i,f i < 256)∧cs=(List.range 16).map fun j=>.int .u8 (f j:Int):=by
 obtain⟨xs,m,_,_,hl,hx,hf⟩:=DataW.trod_array Tryz.underlying22 h
 rw[H9]at hl
 rw[OF]at hf
 have hc:∀i,i < 16→∃m:Nat,m < 256∧cs[i]?=some (.int .u8 (m:Int)):=fun i hi=>by
  have hfi:=hf i hi
  obtain⟨z,hz⟩:∃z,xs[i]?=some z:=⟨_,List.getElem?_eq_getElem (by omega)⟩
  rw[hz]at hfi
  obtain⟨k,e,_,hw⟩:=DataW.trod_int Tryz.underlying5 hfi
  obtain⟨m,rfl,hm⟩:=wf_u8 hw
  refine⟨m,hm,?_⟩
  have:=congrArg (fun l=>l[0]?) e
  simpa[List.getElem?_take,List.getElem?_drop]using this
 refine⟨fun i=>if h:i < 16 then(hc i h).choose else 0,fun i=>?_,?_⟩
 ·by_cases h:i < 16
  ·simp only[dif_pos h];exact(hc i h).choose_spec.1
  ·simp only[dif_neg h];omega
 ·apply List.ext_getElem?
  intro i
  by_cases h:i < 16
  ·rw[(hc i h).choose_spec.2]
   simp[h]
  ·rw[List.getElem?_eq_none (by omega),List.getElem?_eq_none (by simp;omega)]
theorem Fp(h:DataW.trod enc Tryz.prog w base spare held fuel 24 cs=some y):∃v n,n < 2^128∧cs=cx v n:=by
 obtain⟨xs,m,_,_,hl,hx,hf⟩:=DataW.trod_struct Tryz.underlying24 h
 rw[H8]at hl
 have h0:DataW.trod enc Tryz.prog w base spare held m 4 ((cs.drop 0).take (Tryz.prog.cellsOf 4))=xs[0]?:=hf 0 _ rfl
 have h1:DataW.trod enc Tryz.prog w base spare held m 22 ((cs.drop 1).take (Tryz.prog.cellsOf 22))=xs[1]?:=hf 1 _ rfl
 rw[OG]at h0
 rw[H9]at h1
 obtain⟨z0,hz0⟩:∃z,xs[0]?=some z:=⟨_,List.getElem?_eq_getElem (by rw[hx];decide)⟩
 obtain⟨z1,hz1⟩:∃z,xs[1]?=some z:=⟨_,List.getElem?_eq_getElem (by rw[hx];decide)⟩
 rw[hz0]at h0
 rw[hz1]at h1
 obtain⟨v,e0,_⟩:=DataW.trod_bool Tryz.underlying4 h0
 obtain⟨f,hf256,e1⟩:=Aj h1
 obtain⟨n,hn,hb⟩:=vt f hf256
 refine⟨v,n,hn,?_⟩
 match cs,hl with
 |c::r,hl=>
  simp at e0 hl
  subst e0
  rw[List.drop_one,List.tail_cons,List.take_of_length_le (by omega)]at e1
  rw[e1]
  unfold cx az
  congr 1
  apply List.map_congr_left
  intro j hj
  rw[hb j (by simpa using hj)]
theorem xz(h:DataW.trod enc Tryz.prog w base spare held fuel 29 cs=some y):∃v n k,n < 2^128∧(-9223372036854775808≤k∧k≤9223372036854775807)∧cs=cV v n k:=by
 obtain⟨xs,m,_,_,hl,hx,hf⟩:=DataW.trod_struct Tryz.underlying29 h
 rw[M6]at hl
 have h0:DataW.trod enc Tryz.prog w base spare held m 24 ((cs.drop 0).take (Tryz.prog.cellsOf 24))=xs[0]?:=hf 0 _ rfl
 have h1:DataW.trod enc Tryz.prog w base spare held m 3 ((cs.drop 17).take (Tryz.prog.cellsOf 3))=xs[1]?:=hf 1 _ rfl
 rw[H8]at h0
 rw[OH]at h1
 obtain⟨z0,hz0⟩:∃z,xs[0]?=some z:=⟨_,List.getElem?_eq_getElem (by rw[hx];decide)⟩
 obtain⟨z1,hz1⟩:∃z,xs[1]?=some z:=⟨_,List.getElem?_eq_getElem (by rw[hx];decide)⟩
 rw[hz0]at h0
 rw[hz1]at h1
 obtain⟨v,n,hn,e0⟩:=Fp h0
 obtain⟨k,e1,hk⟩:=Fo h1
 refine⟨v,n,k,hn,hk,?_⟩
 rw[List.drop_zero]at e0
 rw[List.take_of_length_le (by simp;omega)]at e1
 rw[←List.take_append_drop 17 cs,e0,e1]
 rfl
theorem Nf{t:TypeId}{v:Value}{b0:Nat}(ht:(∃fs,Tryz.prog.underlying t=some (.struct fs))∨∃n e,Tryz.prog.underlying t=some (.array n e))(hv:Value.okWide Tryz.prog w .any b0 t v):∃cs:Array Value,v=.agg cs:=by
 rcases ht with⟨fs,ht⟩ | ⟨n,e,ht⟩
 ·obtain⟨cs,h,_⟩:=okWide_struct ht hv
  exact⟨cs,h⟩
 ·simp only[Value.okWide,ht]at hv
  obtain⟨cs,h,_⟩:=hv
  exact⟨cs,h⟩
theorem M5:Tryz.prog.cellsOf 64=2:=by kernel_rfl
theorem M4:Tryz.prog.cellsOf 66=44:=by kernel_rfl
def gl{α:Type}(l:List α):Nat→List Nat→List α
 |_,[]=>[]
 |off,s::r=>(l.drop off).take s++gl l (off+s) r
theorem LK{α:Type}(l:List α):∀(ss:List Nat) (off:Nat),off+ss.sum=l.length→gl l off ss=l.drop off
 | [],off,h=>by
  have:off=l.length:=by simpa using h
  rw[this,List.drop_length];rfl
 |s::r,off,h=>by
  rw[gl,LK l r (off+s) (by rw[List.sum_cons]at h;omega)]
  have:=List.take_append_drop s (l.drop off)
  rw[List.drop_drop]at this
  exact this
theorem G9{α:Type}{l:List α}{ss:List Nat}(h:l.length=ss.sum):l=gl l 0 ss:=by rw[LK l ss 0 (by omega)];rfl
theorem zG{d:DataW H}:∀{ds:List (DataW H)},d∈ds→Rows.uptoBulk d≤Rows.uptoBulkAll ds
 |x::r,h=>by
  rw[Rows.uptoBulkAll]
  rcases List.mem_cons.1 h with rfl|h
  ·omega
  ·have:=zG h;omega
theorem qp{t:Nat}{fs:Array Field}(ht:Tryz.prog.underlying t=some (.struct fs))(h:DataW.trod enc Tryz.prog w base spare held fuel t cs=some y) :
  ∃(xs:List (DataW H×List MemPlace)) (m:Nat),y.1=.agg (xs.map (·.1))∧xs.length=fs.size∧cs.length=Tryz.prog.cellsOf t∧∀(i:Nat) (f:Field),fs[i]?=some f→∃z,xs[i]?=some z∧DataW.trod enc Tryz.prog w base spare held m f.type ((cs.drop f.offset).take (Tryz.prog.cellsOf f.type))=some z∧Rows.uptoBulk z.1≤Rows.uptoBulk y.1:=by
 obtain⟨xs,m,_,hy,hl,hx,hf⟩:=DataW.trod_struct ht h
 refine⟨xs,m,by rw[hy],hx,hl,fun i f hif=>?_⟩
 have hi:i < xs.length:=by rw[hx];exact(Array.getElem?_eq_some_iff.1 hif).1
 refine⟨xs[i],List.getElem?_eq_getElem hi,(hf i f hif).trans (List.getElem?_eq_getElem hi),?_⟩
 rw[hy]
 show _≤Rows.uptoBulkAll (xs.map (·.1))+1
 have:=zG (H:=H) (d:=xs[i].1) (ds:=xs.map (·.1)) (List.mem_map.2 ⟨xs[i],List.getElem_mem hi,rfl⟩)
 omega
theorem wf_u16{k:Int}(h:(Lit.int .u16 k).wf=true):∃m:Nat,k=m∧m≤65535:=by
 have:0≤k∧k≤65535:=by simpa[Lit.wf,IntKind.min,IntKind.max,IntKind.signed,IntKind.bits]using h
 exact⟨k.toNat,by omega,by omega⟩
theorem BS(h:DataW.trod enc Tryz.prog w base spare held fuel 5 cs=some y):∃m:Nat,cs=[.int .u8 (m:Int)]∧m < 256:=by
 obtain⟨k,e,_,hw⟩:=DataW.trod_int Tryz.underlying5 h
 obtain⟨m,rfl,hm⟩:=wf_u8 hw
 exact⟨m,e,hm⟩
theorem xy(h:DataW.trod enc Tryz.prog w base spare held fuel 62 cs=some y):∃m:Nat,cs=[.int .u16 (m:Int)]∧m≤65535:=by
 obtain⟨k,e,_,hw⟩:=DataW.trod_int Tryz.underlying62 h
 obtain⟨m,rfl,hm⟩:=wf_u16 hw
 exact⟨m,e,hm⟩
theorem pS(h:DataW.trod enc Tryz.prog w base spare held fuel 64 cs=some y):∃a b:Nat,cs=[.int .u16 (a:Int),.int .u16 (b:Int)]∧a≤65535∧b≤65535:=by
 obtain⟨xs,m,_,_,hl,hf⟩:=qp Tryz.underlying64 h
 rw[M5]at hl
 obtain⟨z0,_,h0,_⟩:=hf 0 _ rfl
 obtain⟨z1,_,h1,_⟩:=hf 1 _ rfl
 obtain⟨a,e0,ha⟩:=xy h0
 obtain⟨b,e1,hb⟩:=xy h1
 refine⟨a,b,?_,ha,hb⟩
 rw[G9 (l:=cs) (ss:=[1,1]) hl]
 show(cs.drop 0).take (Tryz.prog.cellsOf 62)++((cs.drop 1).take (Tryz.prog.cellsOf 62)++[])=_
 rw[show(cs.drop 0).take (Tryz.prog.cellsOf 62)=_ from e0,show(cs.drop 1).take (Tryz.prog.cellsOf 62)=_ from e1];rfl
theorem Je(h:DataW.trod enc Tryz.prog w base spare held fuel 66 cs=some y):∃m:Mt,m.Wf∧cs=m.cells:=by
 obtain⟨xs,k,_,_,hl,hf⟩:=qp Tryz.underlying66 h
 rw[M4]at hl
 obtain⟨_,_,h0,_⟩:=hf 0 _ rfl
 obtain⟨_,_,h1,_⟩:=hf 1 _ rfl
 obtain⟨_,_,h2,_⟩:=hf 2 _ rfl
 obtain⟨_,_,h3,_⟩:=hf 3 _ rfl
 obtain⟨_,_,h4,_⟩:=hf 4 _ rfl
 obtain⟨_,_,h5,_⟩:=hf 5 _ rfl
 obtain⟨_,_,h6,_⟩:=hf 6 _ rfl
 obtain⟨a0,e0,b0⟩:=BS h0
 obtain⟨a1,c1,e1,b1⟩:=pS h1
 obtain⟨v2,n2,k2,b2,d2,e2⟩:=xz h2
 obtain⟨v3,n3,k3,b3,d3,e3⟩:=xz h3
 obtain⟨a4,e4,b4⟩:=BS h4
 obtain⟨a5,c5,e5,b5⟩:=pS h5
 obtain⟨a6,c6,e6,b6⟩:=pS h6
 refine⟨⟨a0,(a1,c1),⟨v2,n2,k2⟩,⟨v3,n3,k3⟩,a4,(a5,c5),(a6,c6)⟩,⟨b0,b2,d2,b3,d3,b1,b5,b6,by show a4≤255;omega⟩,?_⟩
 rw[G9 (l:=cs) (ss:=[1,2,18,18,1,2,2]) hl]
 show(cs.drop 0).take (Tryz.prog.cellsOf 5)++((cs.drop 1).take (Tryz.prog.cellsOf 64)++((cs.drop 3).take (Tryz.prog.cellsOf 29)++((cs.drop 21).take (Tryz.prog.cellsOf 29)++((cs.drop 39).take (Tryz.prog.cellsOf 5)++((cs.drop 40).take (Tryz.prog.cellsOf 64)++((cs.drop 42).take (Tryz.prog.cellsOf 64)++[]))))))=_
 rw[show(cs.drop 0).take (Tryz.prog.cellsOf 5)=_ from e0,show(cs.drop 1).take (Tryz.prog.cellsOf 64)=_ from e1,show(cs.drop 3).take (Tryz.prog.cellsOf 29)=_ from e2,show(cs.drop 21).take (Tryz.prog.cellsOf 29)=_ from e3,show(cs.drop 39).take (Tryz.prog.cellsOf 5)=_ from e4,show(cs.drop 40).take (Tryz.prog.cellsOf 64)=_ from e5,show(cs.drop 42).take (Tryz.prog.cellsOf 64)=_ from e6]
 rfl
theorem J1{v:Value}{d:DataW H}{p:List MemPlace}{b0:Nat}(hv:Value.okWide Tryz.prog w .any b0 66 v)(h:DataW.Trod enc Tryz.prog w base spare held 66 v d p):∃m:Mt,m.Wf∧v=gY m:=by
 obtain⟨cs,rfl⟩:=Nf (.inl ⟨_,Tryz.underlying66⟩) hv
 obtain⟨fuel,hf⟩:=h
 obtain⟨m,hm,e⟩:=Je hf
 exact⟨m,hm,by unfold gY;rw[←e];simp[Value.cells]⟩
end
set_option maxRecDepth 100000
open Go.RowKit Go.Lib Go.Sort Go.ChangeShapes Go.WideShapes
theorem s6{P:Program}{W:World}{n nm:String}{d:DataW Unit}{r:List (String×DataW Unit)}{g ti:Nat}{ms:Array (String×TypeId)}(h:laidMet P ((n,.iface nm d)::r) W)(hg:P.globalNamed n=some g)(ht:(P.globals[g]?).map (·.type)=some ti)(hi:P.underlying ti=some (.interface ms)) :
  ∃te pe,W.cell? ⟨g,0,none⟩=some (.iface te pe):=by
 obtain⟨ps,⟨g0,t0,cs0,f0,p0,q0,hg0,ht0,hv0,hd0,_,e0⟩,_,hrows⟩:=h
 obtain rfl:=Option.some.inj (hg.symm.trans hg0)
 obtain rfl:=Option.some.inj (ht.symm.trans ht0)
 obtain⟨l0⟩:=cs0
 obtain⟨f1,u,v,e,_,_⟩:=iface_of_trod hi hd0
 refine⟨u,v,?_⟩
 simp only at e
 subst e
 simpa using World.var?_cell hg0 hv0 0
def CJ:List (String×DataW Unit):=Rows.langReadsRow.laid
def ND:List Int:=[0,1,56,2,57,49,28,3,61,58,42,50,38,29,17,4,62,47,59,36,45,43,51,22,53,39,33,30,24,18,12,5,63,55,48,27,60,41,37,16,46,35,44,21,52,32,23,11,54,26,40,15,34,20,31,10,25,14,19,9,13,8,7,6]
theorem KA:1 < Tryz.prog.globals.size:=of_decide_eq_true (by kernel_rfl)
theorem Kz:8 < Tryz.prog.globals.size:=of_decide_eq_true (by kernel_rfl)
theorem Nz:(((begin Tryz.prog (fun _ _=>0) default).world.heap[8]?).bind Obj.row?).isSome=true:=by kernel_rfl
theorem Eo:Tryz.prog.globalNamed "errors.errorType"=some 0:=by kernel_rfl
theorem Jz:(Tryz.prog.cutTypes.find? (·.1== "internal/reflectlite.rtype")).map (·.2)=some 242:=by kernel_rfl
theorem types_size:Tryz.prog.types.size=330:=by kernel_rfl
theorem Mw:((List.range 330).filter fun t=>Tryz.prog.rowNamed t [101,114,114,111,114])=[48]:=by kernel_rfl
theorem s7{W:World}(h:handlesMet Tryz.prog [("errors.errorType",Rows.laid_errors_errorType)] W):W.cell? ⟨0,0,none⟩=some (.iface 242 (.agg #[.pointer (some ⟨9,48,none⟩)])):=by
 obtain⟨name,u,ty,e1,e2,e3,e4,e5⟩:=h _ (List.mem_singleton.2 rfl)
 have en:name=[101,114,114,111,114]:=(Option.some.inj e1).symm
 subst en
 obtain rfl:=Option.some.inj (Jz.symm.trans e2)
 have hm:ty∈(List.range 330).filter fun t=>Tryz.prog.rowNamed t [101,114,114,111,114]:=List.mem_filter.2 ⟨List.mem_range.2 (by rw[←types_size];exact e3),e4⟩
 rw[Mw]at hm
 obtain rfl:=List.mem_singleton.1 hm
 have hh:typeHandle Tryz.prog 48=.pointer (some ⟨9,48,none⟩):=by kernel_rfl
 rw[hh]at e5
 simpa using World.var?_cell Eo e5 0
theorem Kn{W:World}(hL:laidMetH Tryz.prog CJ W)(hS:W.ShapedOpen Tryz.prog):lu W:=by
 have h':laidMet Tryz.prog (("math/bits.deBruijn32tab",Rows.laid_math_bits_deBruijn32tab)::("math/bits.deBruijn64tab",Rows.laid_math_bits_deBruijn64tab)::("internal/strconv.uint64pow10",Rows.laid_internal_strconv_uint64pow10)::("unicode/utf8.acceptRanges",Rows.laid_unicode_utf8_acceptRanges)::("strconv.ErrRange",Rows.laid_strconv_ErrRange)::("strconv.ErrSyntax",Rows.laid_strconv_ErrSyntax)::("unicode/utf8.first",Rows.laid_unicode_utf8_first)::[]) W∧handlesMet Tryz.prog [("errors.errorType",Rows.laid_errors_errorType)] W:=hL
 obtain⟨t0,th⟩:=h'
 have t1:=laidMet.tail t0
 have t2:=laidMet.tail t1
 have t3:=laidMet.tail t2
 have t4:=laidMet.tail t3
 have t5:=laidMet.tail t4
 have h8:Lib.TabIs Tryz.prog W "math/bits.deBruijn64tab" .u8 ND:=
  Lib.tabIs_of_head (show Tryz.prog.globalNamed "math/bits.deBruijn64tab"=some 8 by kernel_rfl) (show(Tryz.prog.globals[8]?).map (·.type)=some 304 by kernel_rfl) Tryz.underlying304 Tryz.underlying5 (by kernel_rfl) (by kernel_rfl) t1
 have h2:Lib.TabIs Tryz.prog W "internal/strconv.uint64pow10" .u64 Lib.pow10Tab:=
  Lib.tabIs_of_head (show Tryz.prog.globalNamed "internal/strconv.uint64pow10"=some 2 by kernel_rfl) (show(Tryz.prog.globals[2]?).map (·.type)=some 285 by kernel_rfl) Tryz.underlying285 Tryz.underlying89 (by kernel_rfl) (by kernel_rfl) t2
 obtain⟨te2,DM,h4⟩:=s6 t4 (show Tryz.prog.globalNamed "strconv.ErrRange"=some 4 by kernel_rfl) (show(Tryz.prog.globals[4]?).map (·.type)=some 48 by kernel_rfl) Tryz.underlying48
 obtain⟨te1,yf,h3⟩:=s6 t5 (show Tryz.prog.globalNamed "strconv.ErrSyntax"=some 3 by kernel_rfl) (show(Tryz.prog.globals[3]?).map (·.type)=some 48 by kernel_rfl) Tryz.underlying48
 have h1:=cell_of_shapedOpen_int (P:=Tryz.prog) (g:=1) (t:=3) (zero:=#[.int .i64 0]) hS KA (by kernel_rfl) rfl (by kernel_rfl) (by kernel_rfl) Tryz.underlying3
 have hlow:9≤W.heap.size:=by
  obtain⟨⟨z,t⟩,hz⟩:=Option.isSome_iff_exists.1 Nz
  obtain⟨cs,hh,_⟩:=hS.1 8 z t Kz hz
  have:8 < W.heap.size:=by
   rcases Nat.lt_or_ge 8 W.heap.size with h|h
   ·exact h
   ·rw[Array.getElem?_eq_none h]at hh;cases hh
  omega
 exact⟨⟨h1,⟨_,h3,.inr ⟨_,_,rfl⟩⟩,⟨_,h4,.inr ⟨_,_,rfl⟩⟩,h2,h8.cell (by kernel_rfl) 15 (by decide),hlow⟩,s7 th⟩
noncomputable def uS(os:Os):World:=
 let w0:=World.holding Tryz.prog os ⟨#[],#[],[]⟩
 { w0 with heap:=w0.heap.modify 0 fun
   |.cells _ t frozen=>.cells #[.iface 242 (.agg #[.pointer (some ⟨9,48,none⟩)])] t frozen
   |o=>o }
def qG:List (String×DataW Unit):=CJ.filter fun x=>x.2.handleName?.isNone
noncomputable def nh(os:Os):World:=(uS os).layVars Tryz.prog qG
theorem D6(os:Os):laidMet Tryz.prog qG (nh os):=by
 have e1:(qG.filter fun x=>(qG.map (·.1)).contains x.1)=qG:=List.filter_eq_self.2 fun x hx=>List.contains_iff_mem.2 (List.mem_map.2 ⟨x,hx,rfl⟩)
 have e2:(qG.filter fun x=>!(qG.map (·.1)).contains x.1)=[]:=List.filter_eq_nil_iff.2 fun x hx=>by rw[List.contains_iff_mem.2 (List.mem_map.2 ⟨x,hx,rfl⟩)];simp
 exact laidMet_layVars (w0:=uS os) (qG.map (·.1)) [] (by rw[e1];rfl) (by rw[e1];kernel_rfl) (by rw[e1];kernel_rfl) (by rw[e2];exact LaidIn.none)
theorem GS(os:Os)(args:Array Value):laidMetH Tryz.prog CJ ((nh os).forCall (fun _ _=>0) ⟨#[],args,[]⟩).memory:=
 laidMetH_of_parts ((D6 os).of_heap (by simp[World.memory,World.forCall,Input.heap])) (by kernel_rfl)
end Go.Proofs.YtnncigmpcdehnaaGreatDoor
