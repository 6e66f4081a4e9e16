import Derived.Test.YtnncigmpcdehnaaGreatDoorQb48
import Derived.Shelf.Vars
import Derived.Stop.LaidErr
import Derived.Lib.LaidTab
import Derived.LaidMore
import Derived.Lay
import Derived.LaidByTextLater
import Derived.LaidHandle
namespace Go.Proofs.YtnncigmpcdehnaaGreatDoor
set_option maxRecDepth 100000
open Go Go.RowKit Go.Lib Go.Sort
def s0:fI:=⟨⟨none,0⟩,⟨none,0⟩,⟨none,0⟩,⟨none,0⟩,⟨none,0⟩⟩
theorem Ha(W:World)(S:List Nat):eo W S wS s0:=
 ⟨⟨rfl,none,0,rfl,fun h=>absurd h (by decide)⟩,⟨rfl,none,0,rfl,fun h=>absurd h (by decide)⟩,⟨rfl,none,0,rfl,fun h=>absurd h (by decide)⟩,⟨rfl,none,0,rfl,fun h=>absurd h (by decide)⟩,⟨rfl,none,0,rfl,fun h=>absurd h (by decide)⟩⟩
theorem G9:eU wS:=⟨fun _ h=>(by cases h),fun _ h=>(by cases h),fun _ h=>(by cases h),fun _ h=>(by cases h),fun _ h=>(by cases h),by unfold nG;decide⟩
theorem J6:e8 wS:=⟨by decide,by decide,by decide,by decide,by decide⟩
theorem EW(W:World):Calls Tryz.prog 25 #[.agg fL.toArray,.agg fL.toArray] W fun e w'=>e=.returned (.bool true)∧aw [] W w':=by
 have h:=EX wS wS s0 s0 (Ha W []) (Ha W []) G9 G9 J6
 rw[(bD _ _).2 rfl]at h
 exact h
abbrev Af(w:World):Sx.bw:=⟨w,[],fun _ _=>False⟩
theorem HQ(s:Bs)(w:World)(hlan:iG w)(code p:Nat)(hs:ed s=.no code p)(hl:s.length≤1000000000):Calls Tryz.prog 9 #[af s] w fun e w'=>e=.returned (.bool true)∧aw [] w w':=by
 have no9:∀k∈([]:List Nat),9≤k:=fun k hk=>by cases hk
 have hL:∀W,aw [] w W→iG W:=fun W hW=>hlan.aP hW no9
 obtain⟨hc,hp⟩:=Fp hs
 have c12:=fun W (hW:aw [] w W)=>wV W (hL W hW)
 have cx:=fun W β (hS:Sx.cw (Af w) β W (Sx.rowAt []) [])=>ye (m:=0) hlan no9 hs W β hS
 have c23:=fun W β (hS:Sx.cw (Af w) β W (Sx.rowAt [⟨105,.ag (qd code p)⟩,⟨46,.dm (fL.map .val)⟩]) [0])=>uq (m:=2) (j:=0) (code:=code) (place:=p) hlan no9 rfl W β hS
 have c28:=fun W (_:aw [] w W)=>EW W
 have c31:Value.bool (decide ((code:Int) > 0))=.bool true:=dQ (decide_eq_true (by omega))
 have c35:Value.bool (decide ((p:Int)≥0))=.bool true:=dQ (decide_eq_true (by omega))
 have c41:Value.int .i64 (IntKind.i64.wrap (((⟨s.toArray⟩:ByteArray).size:Int)+1))=.int .i64 ((s.length+1:Nat):Int):=iw (by
  have:(⟨s.toArray⟩:ByteArray).size=s.length:=by simp[ByteArray.size]
  rw[this,j5 (by omega) (by omega)];rfl)
 have c42:Value.bool (decide ((p:Int)≤((s.length+1:Nat):Int)))=.bool true:=dQ (decide_eq_true (by omega))
 have z0:Value.bool true=.bool true:=rfl
 refine Sx.dJ (args:=[af s]) [(12,.call (.bool true)),(16,.al (Mk 0 code p)),(23,.al (EI 0 code p)),(28,.call (.bool true)),(31,.is (.bool true)),(35,.is (.bool true)),(41,.is (.int .i64 ((s.length+1:Nat):Int))),(42,.is (.bool true))] [] (by kernel_rfl) Tryz.func9 rfl (Nat.le_of_ble_eq_true rfl) ?_
 exact Eq.mp (by kernel_rfl) (Sx.t8 c12 cx c23 c28 c31 c35 c41 c42 z0)
theorem Bb(s:Bs)(w:World)(hlan:iG w)(cf:CF)(hs:ed s=.ok cf)(hp:dU cf=([],4)):Calls Tryz.prog 9 #[af s] w fun e w'=>e=.returned (.bool true)∧aw [] w w':=by
 have no9:∀k∈([]:List Nat),9≤k:=fun k hk=>by cases hk
 have hL:∀W,aw [] w W→iG W:=fun W hW=>hlan.aP hW no9
 obtain⟨_,hw,hf,hB,_⟩:=pR hs
 have c12:=fun W (hW:aw [] w W)=>wV W (hL W hW)
 have cx:=fun W β (hS:Sx.cw (Af w) β W (Sx.rowAt []) [])=>oW (m:=0) hlan no9 hs W β hS
 obtain⟨R6,hR6⟩:∃R6:List Sx.Row,R6=bg cf++[⟨46,.dm [.own 0,.own 1,.own 2,.own 3,.own 4,.val (.int .i64 cf.aL)]⟩]:=⟨_,rfl⟩
 have c46:=fun W β (hS:Sx.cw (Af w) β W (Sx.rowAt R6) (cN 0))=>qL (m:=6) (i:=0) (cf:=cf) (mem:=R6) (by rw[hR6];exact⟨rfl,rfl,rfl,rfl,rfl⟩) hf W β hS
 have c47:=fun W β (hS:Sx.cw (Af w) β W (Sx.rowAt (R6++kU cf)) (cN 6))=>(show Calls Tryz.prog 28 (([.cX (Cq 6 7 8 9 10 cf)]:List Sx.SV).map (Sx.SV.den β)).toArray W (Sx.a7 (Af w) β W (Sx.rowAt (R6++kU cf)) 11 ⟨cN 6,[],[],[],.val (.tuple #[af [],.int .i64 4]),none⟩)from by
  have:=qu (m:=11) hlan.qC no9 (i:=6) (cf:=cf) (mem:=R6++kU cf) (by rw[hR6];exact⟨rfl,rfl,rfl,rfl,rfl⟩) hw hf hB W β hS
  rw[hp]at this
  exact this)
 have z0:Value.bool true=.bool true:=rfl
 subst hR6
 refine Sx.dJ (args:=[af s]) [(12,.call (.bool true)),(16,.al (qN 0 cf (.kK [.row (qW 0 cf),.a (.v .nilIface)]))),(46,.al (NN (cN 0) 6 cf)),(47,.al ⟨cN 6,[],[],[],.val (.tuple #[af [],.int .i64 4]),none⟩)] [] (by kernel_rfl) Tryz.func9 rfl (Nat.le_of_ble_eq_true rfl) ?_
 exact Eq.mp (by kernel_rfl) (Sx.t4 c12 cx c46 c47 z0)
theorem Hz(s:Bs)(w:World)(hlan:iG w)(cf:CF)(hs:ed s=.ok cf)(t:Bs)(hp:dU cf=(t,0))(hb:ed t=.ok cf):Calls Tryz.prog 9 #[af s] w fun e w'=>e=.returned (.bool true)∧aw [] w w':=by
 have no9:∀k∈([]:List Nat),9≤k:=fun k hk=>by cases hk
 have hL:∀W,aw [] w W→iG W:=fun W hW=>hlan.aP hW no9
 obtain⟨_,hw,hf,hB,_⟩:=pR hs
 have c12:=fun W (hW:aw [] w W)=>wV W (hL W hW)
 have cx:=fun W β (hS:Sx.cw (Af w) β W (Sx.rowAt []) [])=>oW (m:=0) hlan no9 hs W β hS
 obtain⟨R6,hR6⟩:∃R6:List Sx.Row,R6=bg cf++[⟨46,.dm [.own 0,.own 1,.own 2,.own 3,.own 4,.val (.int .i64 cf.aL)]⟩]:=⟨_,rfl⟩
 have c46:=fun W β (hS:Sx.cw (Af w) β W (Sx.rowAt R6) (cN 0))=>qL (m:=6) (i:=0) (cf:=cf) (mem:=R6) (by rw[hR6];exact⟨rfl,rfl,rfl,rfl,rfl⟩) hf W β hS
 have c47:=fun W β (hS:Sx.cw (Af w) β W (Sx.rowAt (R6++kU cf)) (cN 6))=>(show Calls Tryz.prog 28 (([.cX (Cq 6 7 8 9 10 cf)]:List Sx.SV).map (Sx.SV.den β)).toArray W (Sx.a7 (Af w) β W (Sx.rowAt (R6++kU cf)) 11 ⟨cN 6,[],[],[],.val (.tuple #[af t,.int .i64 0]),none⟩)from by
  have:=qu (m:=11) hlan.qC no9 (i:=6) (cf:=cf) (mem:=R6++kU cf) (by rw[hR6];exact⟨rfl,rfl,rfl,rfl,rfl⟩) hw hf hB W β hS
  rw[hp]at this
  exact this)
 have c60:=fun W β (hS:Sx.cw (Af w) β W (Sx.rowAt (R6++kU cf)) [])=>oW (m:=11) hlan no9 hb W β hS
 obtain⟨R17,hR17⟩:∃R17:List Sx.Row,R17=R6++(kU cf++(bg cf++[⟨46,.dm [.own 11,.own 12,.own 13,.own 14,.own 15,.val (.int .i64 cf.aL)]⟩])):=⟨_,rfl⟩
 have c65:=fun W β (hS:Sx.cw (Af w) β W (Sx.rowAt R17) (cN 11))=>(show Calls Tryz.prog 28 (([.cX (qW 11 cf)]:List Sx.SV).map (Sx.SV.den β)).toArray W (Sx.a7 (Af w) β W (Sx.rowAt R17) 17 ⟨cN 11,[],[],[],.val (.tuple #[af t,.int .i64 0]),none⟩)from by
  have:=r9 (m:=17) hlan.qC no9 (i:=11) (cf:=cf) (mem:=R17) (by rw[hR17,hR6];exact⟨rfl,rfl,rfl,rfl,rfl⟩) hw hf hB W β hS
  rw[hp]at this
  exact this)
 have c77:=fun W β (hS:Sx.cw (Af w) β W (Sx.rowAt R17) (cN 0++cN 11))=>(show Calls Tryz.prog 25 (([.cX (qW 0 cf),.cX (qW 11 cf)]:List Sx.SV).map (Sx.SV.den β)).toArray W (Sx.a7 (Af w) β W (Sx.rowAt R17) 17 ⟨cN 0++cN 11,[],[],[],.val (.bool true),none⟩)from by
  have:=uy (m:=17) (i:=0) (j:=11) (c:=cf) (d:=cf) (mem:=R17) (by rw[hR17,hR6];exact⟨rfl,rfl,rfl,rfl,rfl⟩) (by rw[hR17,hR6];exact⟨rfl,rfl,rfl,rfl,rfl⟩) hw hw hf W β hS
  rw[show cn cf cf=true from(bD _ _).2 rfl]at this
  exact this)
 have c82:=fun W=>aD (.tmp 80) (.tmp 81) t t true (decide_eq_true rfl) W
 have z0:Value.bool true=.bool true:=rfl
 subst hR17
 subst hR6
 refine Sx.dJ (args:=[af s]) [(12,.call (.bool true)),(16,.al (qN 0 cf (.kK [.row (qW 0 cf),.a (.v .nilIface)]))),(46,.al (NN (cN 0) 6 cf)),(47,.al ⟨cN 6,[],[],[],.val (.tuple #[af t,.int .i64 0]),none⟩),(60,.al (qN 11 cf (.kK [.row (qW 11 cf),.a (.v .nilIface)]))),(65,.al ⟨cN 11,[],[],[],.val (.tuple #[af t,.int .i64 0]),none⟩),(77,.al ⟨cN 0++cN 11,[],[],[],.val (.bool true),none⟩),(82,.bin (.bool true))] [] (by kernel_rfl) Tryz.func9 rfl (Nat.le_of_ble_eq_true rfl) ?_
 exact Eq.mp (by kernel_rfl) (Sx.t8 c12 cx c46 c47 c60 c65 c77 c82 z0)
theorem Km(s:Bs)(w:World)(hlan:iG w)(hl:s.length≤1000000000):Calls Tryz.prog 9 #[af s] w fun e w'=>e=.returned (.bool true)∧aw [] w w':=by
 cases h:ed s with
 |no code p=>exact HQ s w hlan code p h hl
 |ok cf=>
  rcases zX (Fu hlan.qC) (pR h).1 with⟨hp,_⟩ | ⟨hp,hb⟩
  ·exact Bb s w hlan cf h hp
  ·exact Hz s w hlan cf h _ hp hb
theorem Kl(s:ByteArray)(w:World)(hlan:iG w)(hz:s.size≤100000000):Calls Tryz.prog 9 #[.string s] w fun e w'=>e=.returned (.bool true)∧aw [] w w':=by
 have e:s=⟨s.data.toList.toArray⟩:=by rw[Array.toArray_toList]
 have hl:s.data.toList.length≤1000000000:=by
  rw[Array.length_toList]
  exact Nat.le_trans hz (by decide)
 rw[e]
 exact Km _ w hlan hl
set_option maxRecDepth 100000
open Go.RowKit Go.Lib Go.Sort Go.ChangeShapes Go.WideShapes
theorem sR{P:Program}{W:World}{n nm:String}{d:DataW Unit}{r:List (String×DataW Unit)}{g ti:Nat}{ms:Array (String×TypeId)}(h:laidMet P ((n,.iface nm d)::r) W)(hg:P.globalNamed n=some g)(ht:(P.globals[g]?).map (·.type)=some ti)(hi:P.underlying ti=some (.interface ms)) :
  ∃te pe,W.cell? ⟨g,0,none⟩=some (.iface te pe):=by
 obtain⟨ps,⟨g0,t0,cs0,f0,p0,q0,hg0,ht0,hv0,hd0,_,e0⟩,_,hrows⟩:=h
 obtain rfl:=Option.some.inj (hg.symm.trans hg0)
 obtain rfl:=Option.some.inj (ht.symm.trans ht0)
 obtain⟨l0⟩:=cs0
 obtain⟨f1,u,v,e,_,_⟩:=iface_of_trod hi hd0
 refine⟨u,v,?_⟩
 simp only at e
 subst e
 simpa using World.var?_cell hg0 hv0 0
def Ca:List (String×DataW Unit):=Rows.langReadsRow.laid
def ML:List Int:=[0,1,56,2,57,49,28,3,61,58,42,50,38,29,17,4,62,47,59,36,45,43,51,22,53,39,33,30,24,18,12,5,63,55,48,27,60,41,37,16,46,35,44,21,52,32,23,11,54,26,40,15,34,20,31,10,25,14,19,9,13,8,7,6]
theorem JM:1 < Tryz.prog.globals.size:=of_decide_eq_true (by kernel_rfl)
theorem JL:8 < Tryz.prog.globals.size:=of_decide_eq_true (by kernel_rfl)
theorem MH:(((begin Tryz.prog (fun _ _=>0) default).world.heap[8]?).bind Obj.row?).isSome=true:=by kernel_rfl
theorem DS:Tryz.prog.globalNamed "errors.errorType"=some 0:=by kernel_rfl
theorem IU:(Tryz.prog.cutTypes.find? (·.1== "internal/reflectlite.rtype")).map (·.2)=some 242:=by kernel_rfl
theorem types_size:Tryz.prog.types.size=330:=by kernel_rfl
theorem LH:((List.range 330).filter fun t=>Tryz.prog.rowNamed t [101,114,114,111,114])=[48]:=by kernel_rfl
theorem sS{W:World}(h:handlesMet Tryz.prog [("errors.errorType",Rows.laid_errors_errorType)] W):W.cell? ⟨0,0,none⟩=some (.iface 242 (.agg #[.pointer (some ⟨9,48,none⟩)])):=by
 obtain⟨name,u,ty,e1,e2,e3,e4,e5⟩:=h _ (List.mem_singleton.2 rfl)
 have en:name=[101,114,114,111,114]:=(Option.some.inj e1).symm
 subst en
 obtain rfl:=Option.some.inj (IU.symm.trans e2)
 have hm:ty∈(List.range 330).filter fun t=>Tryz.prog.rowNamed t [101,114,114,111,114]:=List.mem_filter.2 ⟨List.mem_range.2 (by rw[←types_size];exact e3),e4⟩
 rw[LH]at hm
 obtain rfl:=List.mem_singleton.1 hm
 have hh:typeHandle Tryz.prog 48=.pointer (some ⟨9,48,none⟩):=by kernel_rfl
 rw[hh]at e5
 simpa using World.var?_cell DS e5 0
theorem Jz{W:World}(hL:laidMetH Tryz.prog Ca W)(hS:W.ShapedOpen Tryz.prog):iG W:=by
 have h':laidMet Tryz.prog (("math/bits.deBruijn32tab",Rows.laid_math_bits_deBruijn32tab)::("math/bits.deBruijn64tab",Rows.laid_math_bits_deBruijn64tab)::("internal/strconv.uint64pow10",Rows.laid_internal_strconv_uint64pow10)::("unicode/utf8.acceptRanges",Rows.laid_unicode_utf8_acceptRanges)::("strconv.ErrRange",Rows.laid_strconv_ErrRange)::("strconv.ErrSyntax",Rows.laid_strconv_ErrSyntax)::("unicode/utf8.first",Rows.laid_unicode_utf8_first)::[]) W∧handlesMet Tryz.prog [("errors.errorType",Rows.laid_errors_errorType)] W:=hL
 obtain⟨t0,th⟩:=h'
 have t1:=laidMet.tail t0
 have t2:=laidMet.tail t1
 have t3:=laidMet.tail t2
 have t4:=laidMet.tail t3
 have t5:=laidMet.tail t4
 have h8:Lib.TabIs Tryz.prog W "math/bits.deBruijn64tab" .u8 ML:=
  Lib.tabIs_of_head (show Tryz.prog.globalNamed "math/bits.deBruijn64tab"=some 8 by kernel_rfl) (show(Tryz.prog.globals[8]?).map (·.type)=some 304 by kernel_rfl) Tryz.underlying304 Tryz.underlying5 (by kernel_rfl) (by kernel_rfl) t1
 have h2:Lib.TabIs Tryz.prog W "internal/strconv.uint64pow10" .u64 Lib.pow10Tab:=
  Lib.tabIs_of_head (show Tryz.prog.globalNamed "internal/strconv.uint64pow10"=some 2 by kernel_rfl) (show(Tryz.prog.globals[2]?).map (·.type)=some 285 by kernel_rfl) Tryz.underlying285 Tryz.underlying89 (by kernel_rfl) (by kernel_rfl) t2
 obtain⟨te2,Df,h4⟩:=sR t4 (show Tryz.prog.globalNamed "strconv.ErrRange"=some 4 by kernel_rfl) (show(Tryz.prog.globals[4]?).map (·.type)=some 48 by kernel_rfl) Tryz.underlying48
 obtain⟨te1,xN,h3⟩:=sR t5 (show Tryz.prog.globalNamed "strconv.ErrSyntax"=some 3 by kernel_rfl) (show(Tryz.prog.globals[3]?).map (·.type)=some 48 by kernel_rfl) Tryz.underlying48
 have h1:=cell_of_shapedOpen_int (P:=Tryz.prog) (g:=1) (t:=3) (zero:=#[.int .i64 0]) hS JM (by kernel_rfl) rfl (by kernel_rfl) (by kernel_rfl) Tryz.underlying3
 have hlow:9≤W.heap.size:=by
  obtain⟨⟨z,t⟩,hz⟩:=Option.isSome_iff_exists.1 MH
  obtain⟨cs,hh,_⟩:=hS.1 8 z t JL hz
  have:8 < W.heap.size:=by
   rcases Nat.lt_or_ge 8 W.heap.size with h|h
   ·exact h
   ·rw[Array.getElem?_eq_none h]at hh;cases hh
  omega
 exact⟨⟨h1,⟨_,h3,.inr ⟨_,_,rfl⟩⟩,⟨_,h4,.inr ⟨_,_,rfl⟩⟩,h2,h8.cell (by kernel_rfl) 15 (by decide),hlow⟩,sS th⟩
noncomputable def uU(os:Os):World:=
 let w0:=World.holding Tryz.prog os ⟨#[],#[],[]⟩
 { w0 with heap:=w0.heap.modify 0 fun
   |.cells _ t frozen=>.cells #[.iface 242 (.agg #[.pointer (some ⟨9,48,none⟩)])] t frozen
   |o=>o }
def qD:List (String×DataW Unit):=Ca.filter fun x=>x.2.handleName?.isNone
noncomputable def mT(os:Os):World:=(uU os).layVars Tryz.prog qD
theorem Dw(os:Os):laidMet Tryz.prog qD (mT os):=by
 have e1:(qD.filter fun x=>(qD.map (·.1)).contains x.1)=qD:=List.filter_eq_self.2 fun x hx=>List.contains_iff_mem.2 (List.mem_map.2 ⟨x,hx,rfl⟩)
 have e2:(qD.filter fun x=>!(qD.map (·.1)).contains x.1)=[]:=List.filter_eq_nil_iff.2 fun x hx=>by rw[List.contains_iff_mem.2 (List.mem_map.2 ⟨x,hx,rfl⟩)];simp
 exact laidMet_layVars (w0:=uU os) (qD.map (·.1)) [] (by rw[e1];rfl) (by rw[e1];kernel_rfl) (by rw[e1];kernel_rfl) (by rw[e2];exact LaidIn.none)
theorem Gh(os:Os)(args:Array Value):laidMetH Tryz.prog Ca ((mT os).forCall (fun _ _=>0) ⟨#[],args,[]⟩).memory:=
 laidMetH_of_parts ((Dw os).of_heap (by simp[World.memory,World.forCall,Input.heap])) (by kernel_rfl)
end Go.Proofs.YtnncigmpcdehnaaGreatDoor
