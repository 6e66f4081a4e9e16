import Derived.Test.YtnncigmpcdehnaaGreatDoorQc29
import Derived.Shelf.Vars
import Derived.Stop.LaidErr
import Derived.Lib.LaidTab
import Derived.LaidMore
import Derived.Lay
import Derived.LaidByTextLater
import Derived.LaidHandle
namespace Go.Proofs.YtnncigmpcdehnaaGreatDoor
set_option maxRecDepth 100000
open Go.RowKit Go.Lib Go.Sort Go.ChangeShapes Go.WideShapes
theorem sU{P:Program}{W:World}{n nm:String}{d:DataW Unit}{r:List (String×DataW Unit)}{g ti:Nat}{ms:Array (String×TypeId)}(h:laidMet P ((n,.iface nm d)::r) W)(hg:P.globalNamed n=some g)(ht:(P.globals[g]?).map (·.type)=some ti)(hi:P.underlying ti=some (.interface ms)) :
  ∃te pe,W.cell? ⟨g,0,none⟩=some (.iface te pe):=by
 obtain⟨ps,⟨g0,t0,cs0,f0,p0,q0,hg0,ht0,hv0,hd0,_,e0⟩,_,hrows⟩:=h
 obtain rfl:=Option.some.inj (hg.symm.trans hg0)
 obtain rfl:=Option.some.inj (ht.symm.trans ht0)
 obtain⟨l0⟩:=cs0
 obtain⟨f1,u,v,e,_,_⟩:=iface_of_trod hi hd0
 refine⟨u,v,?_⟩
 simp only at e
 subst e
 simpa using World.var?_cell hg0 hv0 0
def CA:List (String×DataW Unit):=Rows.langReadsRow.laid
def NH:List Int:=[0,1,56,2,57,49,28,3,61,58,42,50,38,29,17,4,62,47,59,36,45,43,51,22,53,39,33,30,24,18,12,5,63,55,48,27,60,41,37,16,46,35,44,21,52,32,23,11,54,26,40,15,34,20,31,10,25,14,19,9,13,8,7,6]
theorem Kw:1 < Tryz.prog.globals.size:=of_decide_eq_true (by kernel_rfl)
theorem Kv:8 < Tryz.prog.globals.size:=of_decide_eq_true (by kernel_rfl)
theorem NC:(((begin Tryz.prog (fun _ _=>0) default).world.heap[8]?).bind Obj.row?).isSome=true:=by kernel_rfl
theorem Ek:Tryz.prog.globalNamed "errors.errorType"=some 0:=by kernel_rfl
theorem Jv:(Tryz.prog.cutTypes.find? (·.1== "internal/reflectlite.rtype")).map (·.2)=some 242:=by kernel_rfl
theorem types_size:Tryz.prog.types.size=330:=by kernel_rfl
theorem Mu:((List.range 330).filter fun t=>Tryz.prog.rowNamed t [101,114,114,111,114])=[48]:=by kernel_rfl
theorem sV{W:World}(h:handlesMet Tryz.prog [("errors.errorType",Rows.laid_errors_errorType)] W):W.cell? ⟨0,0,none⟩=some (.iface 242 (.agg #[.pointer (some ⟨9,48,none⟩)])):=by
 obtain⟨name,u,ty,e1,e2,e3,e4,e5⟩:=h _ (List.mem_singleton.2 rfl)
 have en:name=[101,114,114,111,114]:=(Option.some.inj e1).symm
 subst en
 obtain rfl:=Option.some.inj (Jv.symm.trans e2)
 have hm:ty∈(List.range 330).filter fun t=>Tryz.prog.rowNamed t [101,114,114,111,114]:=List.mem_filter.2 ⟨List.mem_range.2 (by rw[←types_size];exact e3),e4⟩
 rw[Mu]at hm
 obtain rfl:=List.mem_singleton.1 hm
 have hh:typeHandle Tryz.prog 48=.pointer (some ⟨9,48,none⟩):=by kernel_rfl
 rw[hh]at e5
 simpa using World.var?_cell Ek e5 0
theorem Ki{W:World}(hL:laidMetH Tryz.prog CA W)(hS:W.ShapedOpen Tryz.prog):jo W:=by
 have h':laidMet Tryz.prog (("math/bits.deBruijn32tab",Rows.laid_math_bits_deBruijn32tab)::("math/bits.deBruijn64tab",Rows.laid_math_bits_deBruijn64tab)::("internal/strconv.uint64pow10",Rows.laid_internal_strconv_uint64pow10)::("unicode/utf8.acceptRanges",Rows.laid_unicode_utf8_acceptRanges)::("strconv.ErrRange",Rows.laid_strconv_ErrRange)::("strconv.ErrSyntax",Rows.laid_strconv_ErrSyntax)::("unicode/utf8.first",Rows.laid_unicode_utf8_first)::[]) W∧handlesMet Tryz.prog [("errors.errorType",Rows.laid_errors_errorType)] W:=hL
 obtain⟨t0,th⟩:=h'
 have t1:=laidMet.tail t0
 have t2:=laidMet.tail t1
 have t3:=laidMet.tail t2
 have t4:=laidMet.tail t3
 have t5:=laidMet.tail t4
 have h8:Lib.TabIs Tryz.prog W "math/bits.deBruijn64tab" .u8 NH:=
  Lib.tabIs_of_head (show Tryz.prog.globalNamed "math/bits.deBruijn64tab"=some 8 by kernel_rfl) (show(Tryz.prog.globals[8]?).map (·.type)=some 304 by kernel_rfl) Tryz.underlying304 Tryz.underlying5 (by kernel_rfl) (by kernel_rfl) t1
 have h2:Lib.TabIs Tryz.prog W "internal/strconv.uint64pow10" .u64 Lib.pow10Tab:=
  Lib.tabIs_of_head (show Tryz.prog.globalNamed "internal/strconv.uint64pow10"=some 2 by kernel_rfl) (show(Tryz.prog.globals[2]?).map (·.type)=some 285 by kernel_rfl) Tryz.underlying285 Tryz.underlying89 (by kernel_rfl) (by kernel_rfl) t2
 obtain⟨te2,DI,h4⟩:=sU t4 (show Tryz.prog.globalNamed "strconv.ErrRange"=some 4 by kernel_rfl) (show(Tryz.prog.globals[4]?).map (·.type)=some 48 by kernel_rfl) Tryz.underlying48
 obtain⟨te1,xK,h3⟩:=sU t5 (show Tryz.prog.globalNamed "strconv.ErrSyntax"=some 3 by kernel_rfl) (show(Tryz.prog.globals[3]?).map (·.type)=some 48 by kernel_rfl) Tryz.underlying48
 have h1:=cell_of_shapedOpen_int (P:=Tryz.prog) (g:=1) (t:=3) (zero:=#[.int .i64 0]) hS Kw (by kernel_rfl) rfl (by kernel_rfl) (by kernel_rfl) Tryz.underlying3
 have hlow:9≤W.heap.size:=by
  obtain⟨⟨z,t⟩,hz⟩:=Option.isSome_iff_exists.1 NC
  obtain⟨cs,hh,_⟩:=hS.1 8 z t Kv hz
  have:8 < W.heap.size:=by
   rcases Nat.lt_or_ge 8 W.heap.size with h|h
   ·exact h
   ·rw[Array.getElem?_eq_none h]at hh;cases hh
  omega
 exact⟨⟨h1,⟨_,h3,.inr ⟨_,_,rfl⟩⟩,⟨_,h4,.inr ⟨_,_,rfl⟩⟩,h2,h8.cell (by kernel_rfl) 15 (by decide),hlow⟩,sV th⟩
noncomputable def uK(os:Os):World:=
 let w0:=World.holding Tryz.prog os ⟨#[],#[],[]⟩
 { w0 with heap:=w0.heap.modify 0 fun
   |.cells _ t frozen=>.cells #[.iface 242 (.agg #[.pointer (some ⟨9,48,none⟩)])] t frozen
   |o=>o }
def qw:List (String×DataW Unit):=CA.filter fun x=>x.2.handleName?.isNone
noncomputable def mY(os:Os):World:=(uK os).layVars Tryz.prog qw
theorem DY(os:Os):laidMet Tryz.prog qw (mY os):=by
 have e1:(qw.filter fun x=>(qw.map (·.1)).contains x.1)=qw:=List.filter_eq_self.2 fun x hx=>List.contains_iff_mem.2 (List.mem_map.2 ⟨x,hx,rfl⟩)
 have e2:(qw.filter fun x=>!(qw.map (·.1)).contains x.1)=[]:=List.filter_eq_nil_iff.2 fun x hx=>by rw[List.contains_iff_mem.2 (List.mem_map.2 ⟨x,hx,rfl⟩)];simp
 exact laidMet_layVars (w0:=uK os) (qw.map (·.1)) [] (by rw[e1];rfl) (by rw[e1];kernel_rfl) (by rw[e1];kernel_rfl) (by rw[e2];exact LaidIn.none)
theorem GF(os:Os)(args:Array Value):laidMetH Tryz.prog CA ((mY os).forCall (fun _ _=>0) ⟨#[],args,[]⟩).memory:=
 laidMetH_of_parts ((DY os).of_heap (by simp[World.memory,World.forCall,Input.heap])) (by kernel_rfl)
end Go.Proofs.YtnncigmpcdehnaaGreatDoor
