import Derived.Test.YtnncigmpcdehnaaGreatDoorQh01
import Derived.Shelf.Strings.Builder1
import Derived.Shelf.Strings.Builder2
import Derived.Shelf.Strings.OnBuilder
import Derived.Shelf.Small.Bits
import Derived.Shelf.Small.Wraps
import Derived.Shelf.Strings.BuilderF
import Derived.Shelf.Strings.BuilderK
import Derived.Shelf.Strconv.Itoa0
import Derived.Shelf.Strconv.Itoa1
import Derived.Shelf.LaysM
import Derived.Shelf.Strconv.Itoa2
import Derived.Shelf.Strconv.Itoa3
import Derived.Shelf.Strconv.Clone
import Derived.Shelf.Strconv.SyntaxError
import Derived.Shelf.LaysC
import Derived.Shelf.Strconv.ToError
import Derived.Shelf.Strconv.Lower
import Derived.Shelf.Strconv.ParseUint10
import Derived.Shelf.Strconv.ParseUint10Empty
import Derived.Shelf.Strconv.ParseUint10Any
import Derived.Shelf.Strconv.RangeError
import Derived.Shelf.Strconv.ToErrorRange
import Derived.Shelf.Strconv.ParseUintEmpty
import Derived.Shelf.Strconv.ParseUint10b64
import Derived.Shelf.Strconv.ParseUint10b32
import Derived.Shelf.Strconv.ParseUint10b16
import Derived.Shelf.Strconv.ParseUint10b8
import Derived.Shelf.Strconv.ParseUint10At
import Derived.Ground.MpProg
import Derived.Shelf.Pu.ParseUintPublic10
import Derived.Shelf.Pu.ErrVarParseUint
import Derived.Shelf.Strings.Search1
import Derived.Shelf.Strings.Search2
import Derived.Shelf.Strings.Search3
import Derived.Shelf.Strings.Cut
import Derived.Shelf.Strings.Count
import Derived.Shelf.Strings.Shaped
import Derived.Shelf.Strings.Split
import Derived.Shelf.Strings.SplitShaped
import Derived.Shelf.Unicode.DecodeSlow
import Derived.Test.YtnncigmpcdehnaaGreatDoorProg
import Derived.Test.YtnncigmpcdehnaaGreatDoorRows
import Derived.DeepKeys
import Derived.Laws.BitsAllLaws
import Derived.Laws.IdiomStrings
import Derived.Lib.AppendIntMem
import Derived.Lib.Strings
import Derived.Lib.ConvBytes
import Derived.Lib.AtoiAllMem
import Derived.Laws.Strings3
open List renaming getElem?_eq_getElem→Xy,getElem?_eq_some_iff→XA,getElem?_eq_none→XB,range→XC,drop_eq_getElem_cons→XD,take_of_length_le→XH,length_drop→XI,length_map→XN,length_take→XT,length_cons→XU,mapM_cons→XV,mem_map→XW,mem_of_mem_take→XY,mem_of_mem_drop→XZ,mem_of_getElem?→X0,map_congr_left→X2,length_append→X5,getElem?_set→X6,getElem?_map→X7,ext_getElem?→X8,length_set→Ya,map_cons→Yf,mapM_nil→Yg
open Nat renaming lt_of_lt_of_le→Xz,le_refl→XE,lt_of_le_of_lt→XQ,zero_add→XS,le_trans→XX,zero_le→X4,reduceAdd→Yh,add_comm→Yi
open Go.Value renaming int→XF,oneCell'→XL,formed→XR
open Go.IntKind renaming u64→XG,u8→XM,wrap_u64→X3,signed→X9,bits→Yb,min→Yd,max→Ye
open Array renaming size_replicate→XJ
open Go.Instr renaming field→XO,sliceAt→XP
namespace Go.Proofs
open Go.Shelf
def Tryz.uG:Go.Shelf.Ren:=⟨fun | 156=>87 | 165=>145 | 166=>141 | 169=>77 | 240=>194 | 241=>200 | 276=>233 | 277=>238|n=>n,fun | 31=>70 | 9=>9 | 3=>3 | 4=>4 | 0=>0 | 20=>20 | 72=>130 | 76=>208 | 70=>128 | 37=>82 | 75=>48 | 127=>210 | 164=>188 | 5=>5 | 80=>139|n=>n,fun|n=>n⟩
theorem Tryz.Hw:Go.Proofs.Lays.n156 Tryz.prog Tryz.uG:={
 mixed:=by kernel_rfl
 f156:=Tryz.func87.trans (congrArg some (by kernel_rfl))
 f165:=Tryz.func145.trans (congrArg some (by kernel_rfl))
 f166:=Tryz.func141.trans (congrArg some (by kernel_rfl))
 f169:=Tryz.func77.trans (congrArg some (by kernel_rfl))
 f240:=Tryz.func194.trans (congrArg some (by kernel_rfl))
 f241:=Tryz.func200.trans (congrArg some (by kernel_rfl))
 f276:=Tryz.func233.trans (congrArg some (by kernel_rfl))
 f277:=Tryz.func238.trans (congrArg some (by kernel_rfl))
 t0:=Tryz.underlying0
 a0:=Tryz.isAgg0
 z0:=Tryz.sizeOf0
 v0:=Tryz.zeroValue0
 t3:=Tryz.underlying3
 a3:=Tryz.isAgg3
 z3:=Tryz.sizeOf3
 v3:=Tryz.zeroValue3
 t4:=Tryz.underlying4
 a4:=Tryz.isAgg4
 z4:=Tryz.sizeOf4
 v4:=Tryz.zeroValue4
 t9:=Tryz.underlying9
 a9:=Tryz.isAgg9
 z9:=Tryz.sizeOf9
 v9:=Tryz.zeroValue9
 t20:=Tryz.underlying20
 a20:=Tryz.isAgg20
 z20:=Tryz.sizeOf20
 v20:=Tryz.zeroValue20
 t31:=Tryz.underlying70
 a31:=Tryz.isAgg70
 z31:=Tryz.sizeOf70
 v31:=Tryz.zeroValue70
 t37:=Tryz.underlying82
 a37:=Tryz.isAgg82
 z37:=Tryz.sizeOf82
 v37:=Tryz.zeroValue82
 t70:=Tryz.underlying128
 a70:=Tryz.isAgg128
 z70:=Tryz.sizeOf128
 v70:=Tryz.zeroValue128
 t72:=Tryz.underlying130
 a72:=Tryz.isAgg130
 z72:=Tryz.sizeOf130
 v72:=Tryz.zeroValue130
 t75:=Tryz.underlying48
 a75:=Tryz.isAgg48
 z75:=Tryz.sizeOf48
 v75:=Tryz.zeroValue48
 t76:=Tryz.underlying208
 a76:=Tryz.isAgg208
 z76:=Tryz.sizeOf208
 v76:=Tryz.zeroValue208
 t127:=Tryz.underlying210
 a127:=Tryz.isAgg210
 z127:=Tryz.sizeOf210
 v127:=Tryz.zeroValue210
 t164:=Tryz.underlying188
 a164:=Tryz.isAgg188
 z164:=Tryz.sizeOf188
 v164:=Tryz.zeroValue188 }
theorem Tryz.lV:Builder.Extra Tryz.prog Tryz.uG:={
 sizeBuilder:=by kernel_rfl
 liesBuilder:=by kernel_rfl
 t5:=Tryz.underlying5
 a5:=Tryz.isAgg5
 z5:=Tryz.sizeOf5
 v5:=Tryz.zeroValue5
 infoByte:=by kernel_rfl
 cellsByte:=by kernel_rfl
 sizeByte:=by kernel_rfl
 neB5:=by decide }
open Go.RowKit in
theorem Tryz.strings_Join_none(a:Option Addr)(c:Nat)(sep:ByteArray)(w:World) :
  Calls Tryz.prog 87 #[.slice a 0 c,.string sep] w fun e w'=>e=.returned (.string ⟨#[]⟩)∧w'=w:=Any.strings_Join_none Tryz.Hw Tryz.lV a c sep w
open Go.RowKit in
theorem Tryz.strings_Join(bk o c:Nat)(xs:List ByteArray)(sep:ByteArray)(w:World)(hcells:∀(j:Nat) x,xs[j]?=some x→w.cell? ⟨bk,o+j,none⟩=some (.string x))(hbk:bk < w.heap.size)(hN:xs.length≤140737488355328)(hcap:xs.length≤c)(hlen:(Lib.join (xs.map (·.data.toList)) sep.data.toList).length≤140737488355328) :
  Calls Tryz.prog 87 #[.slice (some ⟨bk,o,none⟩) xs.length c,.string sep] w fun e w'=>e=.returned (.string ⟨(Lib.join (xs.map (·.data.toList)) sep.data.toList).toArray⟩)∧Below w.heap.size w w':=Any.strings_Join Tryz.Hw Tryz.lV bk o c xs sep w hcells hbk hN hcap hlen
def Tryz.Dg:Go.Shelf.Ren:=⟨fun | 283=>196|n=>n,fun | 3=>3 | 9=>9 | 4=>4|n=>n,fun|n=>n⟩
theorem Tryz.QF:Go.Proofs.Lays.n283 Tryz.prog Tryz.Dg:={
 mixed:=by kernel_rfl
 f283:=Tryz.func196.trans (congrArg some (by kernel_rfl))
 t3:=Tryz.underlying3
 a3:=Tryz.isAgg3
 z3:=Tryz.sizeOf3
 v3:=Tryz.zeroValue3
 t4:=Tryz.underlying4
 a4:=Tryz.isAgg4
 z4:=Tryz.sizeOf4
 v4:=Tryz.zeroValue4
 t9:=Tryz.underlying9
 a9:=Tryz.isAgg9
 z9:=Tryz.sizeOf9
 v9:=Tryz.zeroValue9 }
open Go.Lib in
theorem Tryz.internal_strconv_small(i:Nat)(h:i < 100)(w:World) :
  Calls Tryz.prog 196 #[.int .i64 i] w fun e w'=>e=.returned (.string ⟨(Lib.decDigits i).toArray⟩)∧w'=w:=Any.internal_strconv_small Tryz.QF i h w
def Tryz.Bb:Go.Shelf.Ren:=⟨fun | 284=>197 | 129=>175 | 317=>234 | 318=>235|n=>n,fun | 53=>89 | 3=>3 | 212=>285 | 0=>0 | 4=>4 | 46=>178 | 5=>5 | 9=>9|n=>n,fun | 17=>2|n=>n⟩
theorem Tryz.MZ:Go.Proofs.LaysM.n284 Tryz.prog Tryz.Bb:={
 mixed:=by kernel_rfl
 f129:=Tryz.func175.trans (congrArg some (by kernel_rfl))
 f284:=Tryz.func197.trans (congrArg some (by kernel_rfl))
 f317:=Tryz.func234.trans (congrArg some (by kernel_rfl))
 f318:=Tryz.func235.trans (congrArg some (by kernel_rfl))
 t0:=Tryz.underlying0
 a0:=Tryz.isAgg0
 z0:=Tryz.sizeOf0
 v0:=Tryz.zeroValue0
 t3:=Tryz.underlying3
 a3:=Tryz.isAgg3
 z3:=Tryz.sizeOf3
 v3:=Tryz.zeroValue3
 t4:=Tryz.underlying4
 a4:=Tryz.isAgg4
 z4:=Tryz.sizeOf4
 v4:=Tryz.zeroValue4
 t5:=Tryz.underlying5
 a5:=Tryz.isAgg5
 z5:=Tryz.sizeOf5
 v5:=Tryz.zeroValue5
 t9:=Tryz.underlying9
 a9:=Tryz.isAgg9
 z9:=Tryz.sizeOf9
 v9:=Tryz.zeroValue9
 t46:=Tryz.underlying178
 a46:=Tryz.isAgg178
 z46:=Tryz.sizeOf178
 v46:=Tryz.zeroValue178
 t53:=Tryz.underlying89
 a53:=Tryz.isAgg89
 z53:=Tryz.sizeOf89
 v53:=Tryz.zeroValue89
 t212:=Tryz.underlying285
 a212:=Tryz.isAgg285
 z212:=Tryz.sizeOf285
 v212:=Tryz.zeroValue285
 g17:=by kernel_rfl
 i0:=by kernel_rfl
 i3:=by kernel_rfl
 i4:=by kernel_rfl
 i5:=by kernel_rfl
 i9:=by kernel_rfl
 i46:=by kernel_rfl
 i53:=by kernel_rfl
 i212:=by kernel_rfl
 m17:=by kernel_rfl }
open Go.Lib in
theorem Tryz.internal_strconv_numDigits(u:Nat)(h1:1≤u)(h2:u < 18446744073709551616)(w:World)(htab:Lib.TabIs Tryz.prog w "internal/strconv.uint64pow10" .u64 Lib.pow10Tab) :
  Calls Tryz.prog 197 #[.int .u64 u] w fun e w'=>e=.returned (.int .i64 (Lib.nDigits u))∧w'=w:=Any.internal_strconv_numDigits Tryz.MZ u h1 h2 w htab
def Tryz.Df:Go.Shelf.Ren:=⟨fun | 285=>198|n=>n,fun | 37=>82 | 53=>89 | 3=>3 | 4=>4 | 51=>236 | 9=>9 | 5=>5 | 0=>0|n=>n,fun|n=>n⟩
theorem Tryz.QE:Go.Proofs.Lays.n285 Tryz.prog Tryz.Df:={
 mixed:=by kernel_rfl
 f285:=Tryz.func198.trans (congrArg some (by kernel_rfl))
 t0:=Tryz.underlying0
 a0:=Tryz.isAgg0
 z0:=Tryz.sizeOf0
 v0:=Tryz.zeroValue0
 t3:=Tryz.underlying3
 a3:=Tryz.isAgg3
 z3:=Tryz.sizeOf3
 v3:=Tryz.zeroValue3
 t4:=Tryz.underlying4
 a4:=Tryz.isAgg4
 z4:=Tryz.sizeOf4
 v4:=Tryz.zeroValue4
 t5:=Tryz.underlying5
 a5:=Tryz.isAgg5
 z5:=Tryz.sizeOf5
 v5:=Tryz.zeroValue5
 t9:=Tryz.underlying9
 a9:=Tryz.isAgg9
 z9:=Tryz.sizeOf9
 v9:=Tryz.zeroValue9
 t37:=Tryz.underlying82
 a37:=Tryz.isAgg82
 z37:=Tryz.sizeOf82
 v37:=Tryz.zeroValue82
 t51:=Tryz.underlying236
 a51:=Tryz.isAgg236
 z51:=Tryz.sizeOf236
 v51:=Tryz.zeroValue236
 t53:=Tryz.underlying89
 a53:=Tryz.isAgg89
 z53:=Tryz.sizeOf89
 v53:=Tryz.zeroValue89 }
open Go.RowKit Go.Sort Go.Lib in
theorem Tryz.internal_strconv_formatBase10(cw off cap:Nat)(u:Nat)(d:Array UInt8)(w:World)(hH:Holds (fun(b:UInt8)=>XF .u8 (b.toNat:Int)) w cw off d)(hu:u < 10^d.size)(hu64:u < 18446744073709551616)(hsz:d.size < 4611686018427387904) :
  Calls Tryz.prog 198 #[.slice (some ⟨cw,off,none⟩) d.size cap,.int .u64 u] w fun e w'=>e=.returned (.tuple #[])∧∃(n v':Nat) (dk:Array UInt8),w'=(putRow (fun(b:UInt8)=>XF .u8 (b.toNat:Int)) w cw off dk).drewN n∧FmtInv d.size u 0 v' dk:=Any.internal_strconv_formatBase10 Tryz.QE cw off cap u d w hH hu hu64 hsz
def Tryz.Bc:Go.Shelf.Ren:=⟨fun | 171=>71 | 243=>142 | 246=>195 | 283=>196 | 284=>197 | 285=>198 | 286=>199 | 129=>175 | 317=>234 | 318=>235 | 319=>236 | 320=>237 | 337=>246 | 338=>247|n=>n,fun | 3=>3 | 9=>9 | 2=>2 | 4=>4 | 171=>261 | 0=>0 | 53=>89 | 37=>82 | 5=>5 | 173=>263 | 212=>285 | 51=>236 | 20=>20 | 213=>286 | 46=>178 | 232=>303 | 233=>304|n=>n,fun | 17=>2 | 18=>7 | 19=>8|n=>n⟩
theorem Tryz.M0:Go.Proofs.LaysM.n171 Tryz.prog Tryz.Bc:={
 mixed:=by kernel_rfl
 f129:=Tryz.func175.trans (congrArg some (by kernel_rfl))
 f171:=Tryz.func71.trans (congrArg some (by kernel_rfl))
 f243:=Tryz.func142.trans (congrArg some (by kernel_rfl))
 f246:=Tryz.func195.trans (congrArg some (by kernel_rfl))
 f283:=Tryz.func196.trans (congrArg some (by kernel_rfl))
 f284:=Tryz.func197.trans (congrArg some (by kernel_rfl))
 f285:=Tryz.func198.trans (congrArg some (by kernel_rfl))
 f286:=Tryz.func199.trans (congrArg some (by kernel_rfl))
 f317:=Tryz.func234.trans (congrArg some (by kernel_rfl))
 f318:=Tryz.func235.trans (congrArg some (by kernel_rfl))
 f319:=Tryz.func236.trans (congrArg some (by kernel_rfl))
 f320:=Tryz.func237.trans (congrArg some (by kernel_rfl))
 f337:=Tryz.func246.trans (congrArg some (by kernel_rfl))
 f338:=Tryz.func247.trans (congrArg some (by kernel_rfl))
 t0:=Tryz.underlying0
 a0:=Tryz.isAgg0
 z0:=Tryz.sizeOf0
 v0:=Tryz.zeroValue0
 t2:=Tryz.underlying2
 a2:=Tryz.isAgg2
 z2:=Tryz.sizeOf2
 v2:=Tryz.zeroValue2
 t3:=Tryz.underlying3
 a3:=Tryz.isAgg3
 z3:=Tryz.sizeOf3
 v3:=Tryz.zeroValue3
 t4:=Tryz.underlying4
 a4:=Tryz.isAgg4
 z4:=Tryz.sizeOf4
 v4:=Tryz.zeroValue4
 t5:=Tryz.underlying5
 a5:=Tryz.isAgg5
 z5:=Tryz.sizeOf5
 v5:=Tryz.zeroValue5
 t9:=Tryz.underlying9
 a9:=Tryz.isAgg9
 z9:=Tryz.sizeOf9
 v9:=Tryz.zeroValue9
 t20:=Tryz.underlying20
 a20:=Tryz.isAgg20
 z20:=Tryz.sizeOf20
 v20:=Tryz.zeroValue20
 t37:=Tryz.underlying82
 a37:=Tryz.isAgg82
 z37:=Tryz.sizeOf82
 v37:=Tryz.zeroValue82
 t46:=Tryz.underlying178
 a46:=Tryz.isAgg178
 z46:=Tryz.sizeOf178
 v46:=Tryz.zeroValue178
 t51:=Tryz.underlying236
 a51:=Tryz.isAgg236
 z51:=Tryz.sizeOf236
 v51:=Tryz.zeroValue236
 t53:=Tryz.underlying89
 a53:=Tryz.isAgg89
 z53:=Tryz.sizeOf89
 v53:=Tryz.zeroValue89
 t171:=Tryz.underlying261
 a171:=Tryz.isAgg261
 z171:=Tryz.sizeOf261
 v171:=Tryz.zeroValue261
 t173:=Tryz.underlying263
 a173:=Tryz.isAgg263
 z173:=Tryz.sizeOf263
 v173:=Tryz.zeroValue263
 t212:=Tryz.underlying285
 a212:=Tryz.isAgg285
 z212:=Tryz.sizeOf285
 v212:=Tryz.zeroValue285
 t213:=Tryz.underlying286
 a213:=Tryz.isAgg286
 z213:=Tryz.sizeOf286
 t232:=Tryz.underlying303
 a232:=Tryz.isAgg303
 z232:=Tryz.sizeOf303
 v232:=Tryz.zeroValue303
 t233:=Tryz.underlying304
 a233:=Tryz.isAgg304
 z233:=Tryz.sizeOf304
 v233:=Tryz.zeroValue304
 g17:=by kernel_rfl
 g18:=by kernel_rfl
 g19:=by kernel_rfl
 i0:=by kernel_rfl
 i2:=by kernel_rfl
 i3:=by kernel_rfl
 i4:=by kernel_rfl
 i5:=by kernel_rfl
 i9:=by kernel_rfl
 i20:=by kernel_rfl
 i37:=by kernel_rfl
 i46:=by kernel_rfl
 i51:=by kernel_rfl
 i53:=by kernel_rfl
 i171:=by kernel_rfl
 i173:=by kernel_rfl
 i212:=by kernel_rfl
 i232:=by kernel_rfl
 i233:=by kernel_rfl
 m17:=by kernel_rfl
 m18:=by kernel_rfl
 m19:=by kernel_rfl }
open Go.RowKit Go.Sort Go.Lib in
theorem Tryz.strconv_Itoa(n:Int)(h0 : -9223372036854775808≤n)(h1:n≤9223372036854775807)(w:World)(htab:Lib.TabIs Tryz.prog w "internal/strconv.uint64pow10" .u64 Lib.pow10Tab) :
  Calls Tryz.prog 71 #[.int .i64 n] w fun e w'=>e=.returned (.string ⟨(Lib.itoa n).toArray⟩)∧∃k os,w'=grow (w.drewN k) os:=Any.strconv_Itoa Tryz.M0 n h0 h1 w htab
def Tryz.Bd:Go.Shelf.Ren:=⟨fun | 245=>164 | 279=>218 | 280=>219 | 281=>220 | 282=>221 | 316=>241 | 171=>71 | 205=>242 | 243=>142 | 246=>195 | 283=>196 | 284=>197 | 285=>198 | 286=>199 | 129=>175 | 317=>234 | 318=>235 | 319=>236 | 320=>237 | 337=>246 | 338=>247|n=>n,fun | 9=>9 | 3=>3 | 75=>48 | 167=>270 | 4=>4 | 168=>272 | 210=>292 | 37=>82 | 0=>0 | 127=>210 | 145=>298 | 143=>296 | 2=>2 | 171=>261 | 53=>89 | 5=>5 | 173=>263 | 212=>285 | 51=>236 | 20=>20 | 213=>286 | 46=>178 | 232=>303 | 233=>304 | 80=>139|n=>n,fun | 15=>3 | 16=>4 | 17=>2 | 18=>7 | 19=>8|n=>n⟩
theorem Tryz.Dc:Go.Proofs.LaysC.n245 Tryz.prog Tryz.Bd:={
 mixed:=by kernel_rfl
 f129:=Tryz.func175.trans (congrArg some (by kernel_rfl))
 f171:=Tryz.func71.trans (congrArg some (by kernel_rfl))
 f205:=Tryz.func242.trans (congrArg some (by kernel_rfl))
 f243:=Tryz.func142.trans (congrArg some (by kernel_rfl))
 f245:=Tryz.func164.trans (congrArg some (by kernel_rfl))
 f246:=Tryz.func195.trans (congrArg some (by kernel_rfl))
 f279:=Tryz.func218.trans (congrArg some (by kernel_rfl))
 f280:=Tryz.func219.trans (congrArg some (by kernel_rfl))
 f281:=Tryz.func220.trans (congrArg some (by kernel_rfl))
 f282:=Tryz.func221.trans (congrArg some (by kernel_rfl))
 f283:=Tryz.func196.trans (congrArg some (by kernel_rfl))
 f284:=Tryz.func197.trans (congrArg some (by kernel_rfl))
 f285:=Tryz.func198.trans (congrArg some (by kernel_rfl))
 f286:=Tryz.func199.trans (congrArg some (by kernel_rfl))
 f316:=Tryz.func241.trans (congrArg some (by kernel_rfl))
 f317:=Tryz.func234.trans (congrArg some (by kernel_rfl))
 f318:=Tryz.func235.trans (congrArg some (by kernel_rfl))
 f319:=Tryz.func236.trans (congrArg some (by kernel_rfl))
 f320:=Tryz.func237.trans (congrArg some (by kernel_rfl))
 f337:=Tryz.func246.trans (congrArg some (by kernel_rfl))
 f338:=Tryz.func247.trans (congrArg some (by kernel_rfl))
 t0:=Tryz.underlying0
 a0:=Tryz.isAgg0
 z0:=Tryz.sizeOf0
 v0:=Tryz.zeroValue0
 t2:=Tryz.underlying2
 a2:=Tryz.isAgg2
 z2:=Tryz.sizeOf2
 v2:=Tryz.zeroValue2
 t3:=Tryz.underlying3
 a3:=Tryz.isAgg3
 z3:=Tryz.sizeOf3
 v3:=Tryz.zeroValue3
 t4:=Tryz.underlying4
 a4:=Tryz.isAgg4
 z4:=Tryz.sizeOf4
 v4:=Tryz.zeroValue4
 t5:=Tryz.underlying5
 a5:=Tryz.isAgg5
 z5:=Tryz.sizeOf5
 v5:=Tryz.zeroValue5
 t9:=Tryz.underlying9
 a9:=Tryz.isAgg9
 z9:=Tryz.sizeOf9
 v9:=Tryz.zeroValue9
 t20:=Tryz.underlying20
 a20:=Tryz.isAgg20
 z20:=Tryz.sizeOf20
 v20:=Tryz.zeroValue20
 t37:=Tryz.underlying82
 a37:=Tryz.isAgg82
 z37:=Tryz.sizeOf82
 v37:=Tryz.zeroValue82
 t46:=Tryz.underlying178
 a46:=Tryz.isAgg178
 z46:=Tryz.sizeOf178
 v46:=Tryz.zeroValue178
 t51:=Tryz.underlying236
 a51:=Tryz.isAgg236
 z51:=Tryz.sizeOf236
 v51:=Tryz.zeroValue236
 t53:=Tryz.underlying89
 a53:=Tryz.isAgg89
 z53:=Tryz.sizeOf89
 v53:=Tryz.zeroValue89
 t75:=Tryz.underlying48
 a75:=Tryz.isAgg48
 z75:=Tryz.sizeOf48
 v75:=Tryz.zeroValue48
 t127:=Tryz.underlying210
 a127:=Tryz.isAgg210
 z127:=Tryz.sizeOf210
 v127:=Tryz.zeroValue210
 t143:=Tryz.underlying296
 a143:=Tryz.isAgg296
 z143:=Tryz.sizeOf296
 v143:=Tryz.zeroValue296
 t145:=Tryz.underlying298
 a145:=Tryz.isAgg298
 z145:=Tryz.sizeOf298
 v145:=Tryz.zeroValue298
 t167:=Tryz.underlying270
 a167:=Tryz.isAgg270
 z167:=Tryz.sizeOf270
 v167:=Tryz.zeroValue270
 t168:=Tryz.underlying272
 a168:=Tryz.isAgg272
 z168:=Tryz.sizeOf272
 v168:=Tryz.zeroValue272
 t171:=Tryz.underlying261
 a171:=Tryz.isAgg261
 z171:=Tryz.sizeOf261
 v171:=Tryz.zeroValue261
 t173:=Tryz.underlying263
 a173:=Tryz.isAgg263
 z173:=Tryz.sizeOf263
 v173:=Tryz.zeroValue263
 t210:=Tryz.underlying292
 a210:=Tryz.isAgg292
 z210:=Tryz.sizeOf292
 v210:=Tryz.zeroValue292
 t212:=Tryz.underlying285
 a212:=Tryz.isAgg285
 z212:=Tryz.sizeOf285
 v212:=Tryz.zeroValue285
 t213:=Tryz.underlying286
 a213:=Tryz.isAgg286
 z213:=Tryz.sizeOf286
 t232:=Tryz.underlying303
 a232:=Tryz.isAgg303
 z232:=Tryz.sizeOf303
 v232:=Tryz.zeroValue303
 t233:=Tryz.underlying304
 a233:=Tryz.isAgg304
 z233:=Tryz.sizeOf304
 v233:=Tryz.zeroValue304
 g15:=by kernel_rfl
 g16:=by kernel_rfl
 g17:=by kernel_rfl
 g18:=by kernel_rfl
 g19:=by kernel_rfl
 t80:=Tryz.underlying139
 a80:=Tryz.isAgg139
 z80:=Tryz.sizeOf139
 v80:=Tryz.zeroValue139
 i0:=by kernel_rfl
 i2:=by kernel_rfl
 i3:=by kernel_rfl
 i4:=by kernel_rfl
 i5:=by kernel_rfl
 i9:=by kernel_rfl
 i20:=by kernel_rfl
 i37:=by kernel_rfl
 i46:=by kernel_rfl
 i51:=by kernel_rfl
 i53:=by kernel_rfl
 i75:=by kernel_rfl
 i80:=by kernel_rfl
 i127:=by kernel_rfl
 i143:=by kernel_rfl
 i145:=by kernel_rfl
 i167:=by kernel_rfl
 i168:=by kernel_rfl
 i171:=by kernel_rfl
 i173:=by kernel_rfl
 i210:=by kernel_rfl
 i212:=by kernel_rfl
 i232:=by kernel_rfl
 i233:=by kernel_rfl
 m15:=by kernel_rfl
 m16:=by kernel_rfl
 m17:=by kernel_rfl
 m18:=by kernel_rfl
 m19:=by kernel_rfl
 c0:=by kernel_rfl
 c2:=by kernel_rfl
 c3:=by kernel_rfl
 c4:=by kernel_rfl
 c5:=by kernel_rfl
 c9:=by kernel_rfl
 c20:=by kernel_rfl
 c37:=by kernel_rfl
 c46:=by kernel_rfl
 c51:=by kernel_rfl
 c53:=by kernel_rfl
 c75:=by kernel_rfl
 c80:=by kernel_rfl
 c127:=by kernel_rfl
 c143:=by kernel_rfl
 c145:=by kernel_rfl
 c167:=by kernel_rfl
 c168:=by kernel_rfl
 c171:=by kernel_rfl
 c173:=by kernel_rfl
 c210:=by kernel_rfl
 c212:=by kernel_rfl
 c213:=by kernel_rfl
 c232:=by kernel_rfl
 c233:=by kernel_rfl }
open Go.RowKit in
theorem Tryz.strconv_toError_syntax(fn s:ByteArray)(base bits:Int)(ev:Value)(w:World)(hlim:s.size≤281474976710656)(hv:w.cell? ⟨3,0,none⟩=some ev)(hev:ev=.nilIface∨∃te pe,ev=.iface te pe) :
  Calls Tryz.prog 164 #[.string fn,.string s,.int .i64 base,.int .i64 bits,.iface 270 (.int .i64 2)] w fun e w'=>∃N,e=.returned (.iface 272 (.pointer (some ⟨N,0,none⟩)))∧w.heap.size≤N∧w'.heap[N]?=some (.cells #[.string fn,.string s,ev] 292 (0,0))∧Below w.heap.size w w':=Any.strconv_toError_syntax Tryz.Dc fn s base bits ev w hlim hv hev
def Tryz.Dd:Go.Shelf.Ren:=⟨fun | 321=>216|n=>n,fun | 5=>5|n=>n,fun|n=>n⟩
theorem Tryz.QD:Go.Proofs.Lays.n321 Tryz.prog Tryz.Dd:={
 mixed:=by kernel_rfl
 f321:=Tryz.func216.trans (congrArg some (by kernel_rfl))
 t5:=Tryz.underlying5
 a5:=Tryz.isAgg5
 z5:=Tryz.sizeOf5
 v5:=Tryz.zeroValue5 }
open Go.RowKit in
theorem Tryz.internal_strconv_lower(c:Int)(w:World) :
  Calls Tryz.prog 216 #[.int .u8 c] w fun e w'=>e=.returned (.int .u8 (bits .or .u8 c 32))∧w'=w:=Any.internal_strconv_lower Tryz.QD c w
def Tryz.De:Go.Shelf.Ren:=⟨fun | 287=>163 | 321=>216 | 322=>217|n=>n,fun | 9=>9 | 3=>3 | 53=>89 | 75=>48 | 4=>4 | 167=>270 | 5=>5 | 46=>178 | 37=>82 | 0=>0 | 21=>21 | 80=>139|n=>n,fun|n=>n⟩
theorem Tryz.Hv:Go.Proofs.Lays.n287 Tryz.prog Tryz.De:={
 mixed:=by kernel_rfl
 f287:=Tryz.func163.trans (congrArg some (by kernel_rfl))
 f321:=Tryz.func216.trans (congrArg some (by kernel_rfl))
 f322:=Tryz.func217.trans (congrArg some (by kernel_rfl))
 t0:=Tryz.underlying0
 a0:=Tryz.isAgg0
 z0:=Tryz.sizeOf0
 v0:=Tryz.zeroValue0
 t3:=Tryz.underlying3
 a3:=Tryz.isAgg3
 z3:=Tryz.sizeOf3
 v3:=Tryz.zeroValue3
 t4:=Tryz.underlying4
 a4:=Tryz.isAgg4
 z4:=Tryz.sizeOf4
 v4:=Tryz.zeroValue4
 t5:=Tryz.underlying5
 a5:=Tryz.isAgg5
 z5:=Tryz.sizeOf5
 v5:=Tryz.zeroValue5
 t9:=Tryz.underlying9
 a9:=Tryz.isAgg9
 z9:=Tryz.sizeOf9
 v9:=Tryz.zeroValue9
 t21:=Tryz.underlying21
 a21:=Tryz.isAgg21
 z21:=Tryz.sizeOf21
 v21:=Tryz.zeroValue21
 t37:=Tryz.underlying82
 a37:=Tryz.isAgg82
 z37:=Tryz.sizeOf82
 v37:=Tryz.zeroValue82
 t46:=Tryz.underlying178
 a46:=Tryz.isAgg178
 z46:=Tryz.sizeOf178
 v46:=Tryz.zeroValue178
 t53:=Tryz.underlying89
 a53:=Tryz.isAgg89
 z53:=Tryz.sizeOf89
 v53:=Tryz.zeroValue89
 t75:=Tryz.underlying48
 a75:=Tryz.isAgg48
 z75:=Tryz.sizeOf48
 v75:=Tryz.zeroValue48
 t167:=Tryz.underlying270
 a167:=Tryz.isAgg270
 z167:=Tryz.sizeOf270
 v167:=Tryz.zeroValue270 }
open Go.RowKit in
theorem Tryz.strconv_toError_range(fn s:ByteArray)(base bits:Int)(ev:Value)(w:World)(hlim:s.size≤281474976710656)(hv:w.cell? ⟨4,0,none⟩=some ev)(hev:ev=.nilIface∨∃te pe,ev=.iface te pe) :
  Calls Tryz.prog 164 #[.string fn,.string s,.int .i64 base,.int .i64 bits,.iface 270 (.int .i64 1)] w fun e w'=>∃N,e=.returned (.iface 272 (.pointer (some ⟨N,0,none⟩)))∧w.heap.size≤N∧w'.heap[N]?=some (.cells #[.string fn,.string s,ev] 292 (0,0))∧Below w.heap.size w w':=Any.strconv_toError_range Tryz.Dc fn s base bits ev w hlim hv hev
open Go.RowKit in
theorem Tryz.internal_strconv_ParseUint_empty(base bits:Int)(w:World) :
  Calls Tryz.prog 163 #[.string ⟨#[]⟩,.int .i64 base,.int .i64 bits] w fun e w'=>e=.returned (.tuple #[.int .u64 0,.iface 270 (.int .i64 2)])∧w'=w:=Any.internal_strconv_ParseUint_empty Tryz.Hv base bits w
open Go.RowKit in
theorem Tryz.internal_strconv_ParseUint_10_b64(t:ByteArray)(hne:t.size≠0)(hmax:t.size≤9223372036854775806)(w:World) :
  Calls Tryz.prog 163 #[.string t,.int .i64 10,.int .i64 64] w fun e w'=>e=.returned (Lib.uintTuple 270 (Lib.parseUint10 0 t.data.toList))∧w'=Lib.bytesWorld w 5 t:=Any.internal_strconv_ParseUint_10_b64 Tryz.Hv t hne hmax w
def Tryz.Dj:Go.Shelf.Ren:=⟨fun | 144=>43 | 143=>99 | 219=>161 | 217=>212 | 225=>213 | 224=>214 | 267=>215 | 266=>239 | 314=>240|n=>n,fun | 9=>9 | 4=>4 | 3=>3 | 5=>5 | 46=>178 | 146=>288 | 51=>236|n=>n,fun | 1=>1|n=>n⟩
theorem Tryz.QI:Go.Proofs.Lays.n144 Tryz.prog Tryz.Dj:={
 mixed:=by kernel_rfl
 f143:=Tryz.func99.trans (congrArg some (by kernel_rfl))
 f144:=Tryz.func43.trans (congrArg some (by kernel_rfl))
 f217:=Tryz.func212.trans (congrArg some (by kernel_rfl))
 f219:=Tryz.func161.trans (congrArg some (by kernel_rfl))
 f224:=Tryz.func214.trans (congrArg some (by kernel_rfl))
 f225:=Tryz.func213.trans (congrArg some (by kernel_rfl))
 f266:=Tryz.func239.trans (congrArg some (by kernel_rfl))
 f267:=Tryz.func215.trans (congrArg some (by kernel_rfl))
 f314:=Tryz.func240.trans (congrArg some (by kernel_rfl))
 t3:=Tryz.underlying3
 a3:=Tryz.isAgg3
 z3:=Tryz.sizeOf3
 v3:=Tryz.zeroValue3
 t4:=Tryz.underlying4
 a4:=Tryz.isAgg4
 z4:=Tryz.sizeOf4
 v4:=Tryz.zeroValue4
 t5:=Tryz.underlying5
 a5:=Tryz.isAgg5
 z5:=Tryz.sizeOf5
 v5:=Tryz.zeroValue5
 t9:=Tryz.underlying9
 a9:=Tryz.isAgg9
 z9:=Tryz.sizeOf9
 v9:=Tryz.zeroValue9
 t46:=Tryz.underlying178
 a46:=Tryz.isAgg178
 z46:=Tryz.sizeOf178
 v46:=Tryz.zeroValue178
 t51:=Tryz.underlying236
 a51:=Tryz.isAgg236
 z51:=Tryz.sizeOf236
 v51:=Tryz.zeroValue236
 t146:=Tryz.underlying288
 a146:=Tryz.isAgg288
 z146:=Tryz.sizeOf288
 v146:=Tryz.zeroValue288
 g1:=by kernel_rfl }
open Go.RowKit Go.Lib in
theorem Tryz.strings_Contains_one(s:ByteArray)(c:UInt8)(w:World) :
  Calls Tryz.prog 43 #[.string s,.string ⟨#[c]⟩] w fun e w'=>e=.returned (.bool (decide (0≤Lib.indexByte s.data.toList c)))∧w'=w:=Any.strings_Contains_one Tryz.QI s c w
def Tryz.Di:Go.Shelf.Ren:=⟨fun | 145=>48 | 220=>105 | 219=>161 | 217=>212 | 225=>213 | 224=>214 | 267=>215 | 266=>239 | 314=>240|n=>n,fun | 9=>9 | 4=>4 | 59=>87 | 3=>3 | 5=>5 | 46=>178 | 146=>288 | 51=>236|n=>n,fun | 1=>1|n=>n⟩
theorem Tryz.QH:Go.Proofs.Lays.n145 Tryz.prog Tryz.Di:={
 mixed:=by kernel_rfl
 f145:=Tryz.func48.trans (congrArg some (by kernel_rfl))
 f217:=Tryz.func212.trans (congrArg some (by kernel_rfl))
 f219:=Tryz.func161.trans (congrArg some (by kernel_rfl))
 f220:=Tryz.func105.trans (congrArg some (by kernel_rfl))
 f224:=Tryz.func214.trans (congrArg some (by kernel_rfl))
 f225:=Tryz.func213.trans (congrArg some (by kernel_rfl))
 f266:=Tryz.func239.trans (congrArg some (by kernel_rfl))
 f267:=Tryz.func215.trans (congrArg some (by kernel_rfl))
 f314:=Tryz.func240.trans (congrArg some (by kernel_rfl))
 t3:=Tryz.underlying3
 a3:=Tryz.isAgg3
 z3:=Tryz.sizeOf3
 v3:=Tryz.zeroValue3
 t4:=Tryz.underlying4
 a4:=Tryz.isAgg4
 z4:=Tryz.sizeOf4
 v4:=Tryz.zeroValue4
 t5:=Tryz.underlying5
 a5:=Tryz.isAgg5
 z5:=Tryz.sizeOf5
 v5:=Tryz.zeroValue5
 t9:=Tryz.underlying9
 a9:=Tryz.isAgg9
 z9:=Tryz.sizeOf9
 v9:=Tryz.zeroValue9
 t46:=Tryz.underlying178
 a46:=Tryz.isAgg178
 z46:=Tryz.sizeOf178
 v46:=Tryz.zeroValue178
 t51:=Tryz.underlying236
 a51:=Tryz.isAgg236
 z51:=Tryz.sizeOf236
 v51:=Tryz.zeroValue236
 t59:=Tryz.underlying87
 a59:=Tryz.isAgg87
 z59:=Tryz.sizeOf87
 v59:=Tryz.zeroValue87
 t146:=Tryz.underlying288
 a146:=Tryz.isAgg288
 z146:=Tryz.sizeOf288
 v146:=Tryz.zeroValue288
 g1:=by kernel_rfl }
open Go.RowKit Go.Lib in
theorem Tryz.strings_Cut(s sep:ByteArray)(m:Int)(w:World)(hs:s.size < 4294967281)(hm:w.cell? ⟨1,0,none⟩=some (.int .i64 m)) :
  Calls Tryz.prog 48 #[.string s,.string sep] w fun e w'=>e=.returned (.tuple #[.string ⟨(Lib.cut s.data.toList sep.data.toList).1.toArray⟩,.string ⟨(Lib.cut s.data.toList sep.data.toList).2.1.toArray⟩,.bool (Lib.cut s.data.toList sep.data.toList).2.2])∧∃n,w'=w.drewN n:=Any.strings_Cut Tryz.QH s sep m w hs hm
def Tryz.Dh:Go.Shelf.Ren:=⟨fun | 146=>62 | 221=>125 | 268=>182 | 138=>183 | 143=>99 | 195=>229 | 197=>230 | 218=>231 | 219=>161 | 260=>245 | 217=>212 | 225=>213 | 224=>214 | 267=>215 | 266=>239 | 314=>240|n=>n,fun | 9=>9 | 31=>70 | 3=>3 | 4=>4 | 0=>0 | 105=>281 | 21=>21 | 5=>5 | 46=>178 | 119=>299 | 139=>302 | 138=>301 | 146=>288 | 51=>236|n=>n,fun | 1=>1 | 3=>5 | 4=>6|n=>n⟩
theorem Tryz.QG:Go.Proofs.Lays.n146 Tryz.prog Tryz.Dh:={
 mixed:=by kernel_rfl
 f138:=Tryz.func183.trans (congrArg some (by kernel_rfl))
 f143:=Tryz.func99.trans (congrArg some (by kernel_rfl))
 f146:=Tryz.func62.trans (congrArg some (by kernel_rfl))
 f195:=Tryz.func229.trans (congrArg some (by kernel_rfl))
 f197:=Tryz.func230.trans (congrArg some (by kernel_rfl))
 f217:=Tryz.func212.trans (congrArg some (by kernel_rfl))
 f218:=Tryz.func231.trans (congrArg some (by kernel_rfl))
 f219:=Tryz.func161.trans (congrArg some (by kernel_rfl))
 f221:=Tryz.func125.trans (congrArg some (by kernel_rfl))
 f224:=Tryz.func214.trans (congrArg some (by kernel_rfl))
 f225:=Tryz.func213.trans (congrArg some (by kernel_rfl))
 f260:=Tryz.func245.trans (congrArg some (by kernel_rfl))
 f266:=Tryz.func239.trans (congrArg some (by kernel_rfl))
 f267:=Tryz.func215.trans (congrArg some (by kernel_rfl))
 f268:=Tryz.func182.trans (congrArg some (by kernel_rfl))
 f314:=Tryz.func240.trans (congrArg some (by kernel_rfl))
 t0:=Tryz.underlying0
 a0:=Tryz.isAgg0
 z0:=Tryz.sizeOf0
 v0:=Tryz.zeroValue0
 t3:=Tryz.underlying3
 a3:=Tryz.isAgg3
 z3:=Tryz.sizeOf3
 v3:=Tryz.zeroValue3
 t4:=Tryz.underlying4
 a4:=Tryz.isAgg4
 z4:=Tryz.sizeOf4
 v4:=Tryz.zeroValue4
 t5:=Tryz.underlying5
 a5:=Tryz.isAgg5
 z5:=Tryz.sizeOf5
 v5:=Tryz.zeroValue5
 t9:=Tryz.underlying9
 a9:=Tryz.isAgg9
 z9:=Tryz.sizeOf9
 v9:=Tryz.zeroValue9
 t21:=Tryz.underlying21
 a21:=Tryz.isAgg21
 z21:=Tryz.sizeOf21
 v21:=Tryz.zeroValue21
 t31:=Tryz.underlying70
 a31:=Tryz.isAgg70
 z31:=Tryz.sizeOf70
 v31:=Tryz.zeroValue70
 t46:=Tryz.underlying178
 a46:=Tryz.isAgg178
 z46:=Tryz.sizeOf178
 v46:=Tryz.zeroValue178
 t51:=Tryz.underlying236
 a51:=Tryz.isAgg236
 z51:=Tryz.sizeOf236
 v51:=Tryz.zeroValue236
 t105:=Tryz.underlying281
 a105:=Tryz.isAgg281
 z105:=Tryz.sizeOf281
 v105:=Tryz.zeroValue281
 t119:=Tryz.underlying299
 a119:=Tryz.isAgg299
 z119:=Tryz.sizeOf299
 t138:=Tryz.underlying301
 a138:=Tryz.isAgg301
 z138:=Tryz.sizeOf301
 v138:=Tryz.zeroValue301
 t139:=Tryz.underlying302
 a139:=Tryz.isAgg302
 z139:=Tryz.sizeOf302
 v139:=Tryz.zeroValue302
 t146:=Tryz.underlying288
 a146:=Tryz.isAgg288
 z146:=Tryz.sizeOf288
 v146:=Tryz.zeroValue288
 g1:=by kernel_rfl
 g3:=by kernel_rfl
 g4:=by kernel_rfl }
open Go.RowKit Go.Lib in
theorem Tryz.strings_Split(s sep:ByteArray)(m:Int)(w:World)(hs:s.size < 4294967281)(hm:w.cell? ⟨1,0,none⟩=some (.int .i64 m))(h1:1≤sep.size) :
  Calls Tryz.prog 62 #[.string s,.string sep] w fun e w'=>e=.returned (.slice (some ⟨w.heap.size,0,none⟩) (Lib.countB s sep+1) (Lib.countB s sep+1))∧w'=w.alloc (.cells ((Lib.splitB sep 0 (Lib.countB s sep) s).map Value.string).toArray 9):=Any.strings_Split Tryz.QG (by kernel_rfl) s sep m w hs hm h1
end Go.Proofs
namespace Go.Proofs.YtnncigmpcdehnaaGreatDoor
set_option maxRecDepth 100000
open Go.RowKit Go.Lib _root_.Go.Proofs.Tryz
set_option maxRecDepth 100000
def ax(v:Bool)(f:Nat→Nat):List Value:=.bool v::(XC 16).map (fun j=>.int .u8 (f j:Int))
theorem aE(v:Bool)(f:Nat→Nat):(ax v f).length=17:=by simp[ax]
theorem ud(v:Bool)(f:Nat→Nat):(ax v f)[0]?=some (.bool v):=rfl
theorem cM(v:Bool)(f:Nat→Nat)(i:Nat)(hi:i < 16):(ax v f)[1+i]?=some (.int .u8 (f i:Int)):=by rw[Yi];simp[ax,hi]
set_option maxHeartbeats 1000000 in
theorem yP(v:Bool)(f:Nat→Nat)(w:World) :
  Calls prog 107 #[.agg (ax v f).toArray] w fun e w'=>e=.returned (.int .i64 (wid v:Nat))∧ai [] w w':=by
 have b0:=aw.new w 24 (ax v f).toArray;have c0:=b0.cell_of (i:=0) (v:=.bool v) rfl;have fin:=hid ((ai.refl [] w).alloc (.cells (ax v f).toArray 24));cases v
 ·go_enter func107,ntmps107
  go_wp2
  go_ret
  exact⟨rfl,fin.out⟩
 ·go_enter func107,ntmps107
  go_wp2
  go_ret
  exact⟨rfl,fin.out⟩
theorem fH:(prog.info? 24).map (·.size)=some 17:=by kernel_rfl
theorem yF{ops:Array Oper}{rest:List Oper}{o:Oper}{a:Act}{w:World}{Q:Exit→Act→World→Prop}(hgd:o.guard=none)(x:Operand)(ho:o.op=.load 24 x)
  (g:Nat) (hx:a.eval x=.pointer (some ⟨g,0,none⟩)) (t:TypeId) (v:Bool) (f:Nat→Nat) (hb:aw w g t (ax v f))
  (h:wpList prog ops Q rest (a.put o.dst (.agg (ax v f).toArray)) w):wpList prog ops Q (o::rest) a w:=
 wpList_load_row hgd 24 x ho g hx t _ (0,0) _ hb underlying24 rfl (fH.trans (by simp[ax])) h
theorem Kz(v:Bool)(f:Nat→Nat):(ax v f).toArray.all (·.oneCell')=true:=by simp[ax,XL]
theorem lY{ops:Array Oper}{rest:List Oper}{o:Oper}{a:Act}{w:World}{Q:Exit→Act→World→Prop}(hgd:o.guard=none)(x y:Operand)(ho:o.op=.store 24 x y)
  (g:Nat) (v:Bool) (f:Nat→Nat) (hx:a.eval x=.pointer (some ⟨g,0,none⟩)) (hy:a.eval y=.agg (ax v f).toArray) (t:TypeId) (old:List Value) (hb:aw w g t old) (hl:old.length=17)
  (h:wpList prog ops Q rest (a.put o.dst undef) (w.setRow g (ax v f).toArray)):wpList prog ops Q (o::rest) a w:=
 wpList_store_row hgd 24 x y ho g _ hx hy t old.toArray hb (fH.trans (by simp[ax])) (by simp[ax,hl]) (Kz v f) h
theorem Wm{fn:Func}{p:Tmp}(h:fn.results=#[.cell p 24])(tmps:Array Value)(w:World)(g:Nat)(v:Bool)(f:Nat→Nat)(t:TypeId)
  (hp:tmps.getD p undef=.pointer (some ⟨g,0,none⟩)) (hb:aw w g t (ax v f)):(results fn tmps).run prog w=.ok (.agg (ax v f).toArray) w:=
 results_cell_row h tmps w g t _ (0,0) _ hp hb underlying24 rfl (fH.trans (by simp[ax]))
theorem ni(v:Bool){f g:Nat→Nat}(h:∀j,j < 16→f j=g j):ax v f=ax v g:=by unfold ax;congr 1;exact X2 fun j hj=>by rw[h j (by simpa using hj)]
def mQ(K:Nat)(f:Nat→Nat)(i j:Nat):Nat:=if j < i then fR K j (f j)else f j
theorem s6(v:Bool)(f g:Nat→Nat)(i x:Nat)(hg:g i=x)(he:∀j,j < 16→j≠i→g j=f j):(ax v f).set (1+i) (.int .u8 (x:Int))=ax v g:=by
 apply X8;intro j;rw[X6,aE];by_cases h1:1+i=j
 ·subst h1
  rw[if_pos rfl];by_cases hi:i < 16
  ·rw[cM v g i hi,if_pos (by omega),hg]
  ·rw[if_neg (by omega),XB (by rw[aE];omega)]
 ·rw[if_neg h1]
  cases j with
  |zero=>rfl
  |succ j=>
   rw[Yi j 1];by_cases hj:j < 16
   ·rw[cM v f j hj,cM v g j hj,he j hj (by omega)]
   ·rw[XB (by rw[aE];omega),XB (by rw[aE];omega)]
theorem MG{K i x:Nat}{f:Nat→Nat}(h:fR K i (f i)=x):mQ K f (i+1) i=x:=by unfold mQ;rw[if_pos (by omega),h]
theorem MF(K:Nat)(f:Nat→Nat)(i j:Nat)(_:j < 16)(hj:j≠i):mQ K f (i+1) j=mQ K f i j:=by
 unfold mQ;by_cases h:j < i
 ·rw[if_pos h,if_pos (by omega)]
 ·rw[if_neg h,if_neg (by omega)]
theorem Ek:∀(x:Fin 256) (s:Fin 8),bits BinOp.and XM (x.val:Int) (255*2^s.val%256)=((x.val / 2^s.val*2^s.val:Nat):Int):=by decide +kernel
theorem RE(x s:Nat)(hx:x < 256)(hs:s < 8):bits BinOp.and XM (x:Int) (255*2^s%256)=((x / 2^s*2^s:Nat):Int):=Ek ⟨x,hx⟩ ⟨s,hs⟩
set_option maxHeartbeats 2000000 in
theorem xk(v:Bool)(f:Nat→Nat)(K:Nat)(hf:∀j,f j < 256)(hK:K≤128)(w:World) :
  Calls prog 108 #[.agg (ax v f).toArray,.int .i64 K] w fun e w'=>e=.returned (.agg (ax v fun j=>fR K j (f j)).toArray)∧ai [] w w':=by
 have HS:=hid (show aw ((w.alloc (.cells (ax v f).toArray 24)).alloc (.cells (ax false fun _=>0).toArray 24)) w.heap.size 24 (ax v (mQ K f 0))from(aw.new w 24 (ax v f).toArray).alloc _);have HR:=hid (show aw ((w.alloc (.cells (ax v f).toArray 24)).alloc (.cells (ax false fun _=>0).toArray 24)) (w.heap.size+1) 24 (ax false fun _=>0)from aw.ga _ 24 (ax false fun _=>0).toArray (by simp));have HC:=hid (((ai.refl [] w).alloc (.cells (ax v f).toArray 24)).alloc (.cells (ax false fun _=>0).toArray 24));go_enter func108,ntmps108
 go_wp2
 go_loopw [7] (fun iv wr=>∃i:Nat,i≤16∧iv=.int .i64 i∧aw wr w.heap.size 24 (ax v (mQ K f i))∧aw wr (w.heap.size+1) 24 (ax false fun _=>0)∧ai [] w wr) (fun iv _=>16 - (RowKit.intOf iv).toNat)
 case atStart=>exact⟨0,by omega,rfl,HS.out,HR.out,HC.out⟩
 case round=>
  obtain⟨i,hi,rfl,hS,hR,hC⟩:=hrel;by_cases hlt:(i:Int) < 16
  ·have i0:(0:Int)≤(i:Int):=by omega
   have c1:=hS.cell_of (cM v (mQ K f i) i (by omega));have f1:=hS.frozen (1+i);by_cases h1:(K:Int) - 8*(i:Int)≤0
   ·go_wp2
    go_roundw
    case measure=>simp[RowKit.intOf];omega
    case rel=>refine⟨i+1,by omega,by go_num,?_,hR.OU (by simp) _,hC.Pp (XE _) _ _⟩;have hs:=hS.sh (1+i) (.int .u8 0);have e:=s6 v (mQ K f i) (mQ K f (i+1)) i 0 (MG (by unfold fR;rw[if_pos (by omega)])) (MF K f i);exact e ▸ hs
   ·by_cases h2:(K:Int) - 8*(i:Int) < 8
    ·obtain⟨s,hs⟩:∃s:Nat,s=8*i+8 - K:=⟨_,rfl⟩
     have es:(8:Int) - ((K:Int) - 8*(i:Int))=(s:Int):=by omega
     have s0:(0:Int)≤(s:Int):=by omega
     go_wp2
     go_region
     go_wp2
     go_roundw
     case measure=>simp[RowKit.intOf];omega
     case rel=>
      refine⟨i+1,by omega,by go_num,?_,(hR.OU (by simp) _).drewN 1,(hC.Pp (XE _) _ _).drew⟩;have hv:bits BinOp.and XM (mQ K f i i:Int) (255*2^(8*i+8 - K)%256)=((fR K i (f i):Nat):Int):=by rw[show mQ K f i i=f i by unfold mQ; rw[if_neg (by omega)],RE (f i) (8*i+8 - K) (hf i) (by omega)];unfold fR;rw[if_neg (by omega),if_pos (by omega)]
      rw[hv];have hs:=hS.sh (1+i) (.int .u8 ((fR K i (f i):Nat):Int));have e:=s6 v (mQ K f i) (mQ K f (i+1)) i _ (MG rfl) (MF K f i);exact(e ▸ hs).drewN 1
    ·go_wp2
     go_roundw
     case measure=>simp[RowKit.intOf];omega
     case rel=>
      refine⟨i+1,by omega,by go_num,?_,hR,hC⟩;rwa [ni v (f:=mQ K f i) (g:=mQ K f (i+1)) (fun j _=>by
       unfold mQ;by_cases h:j < i
       ·rw[if_pos h,if_pos (by omega)]
       ·rw[if_neg h]
        by_cases h3:j=i
        ·subst h3;rw[if_pos (by omega)];unfold fR;rw[if_neg (by omega),if_neg (by omega)]
        ·rw[if_neg (by omega)])]at hS
  ·have hi16:i=16:=by omega
   subst hi16;go_wp2_with (first | (refine yF rfl _ rfl w.heap.size rfl 24 v _ hS ?_) | (refine lY rfl _ _ rfl (w.heap.size+1) v _ rfl rfl 24 _ hR (aE _ _) ?_))
   refine bodyPost_ret (Wm rfl _ _ (w.heap.size+1) v (fun j=>fR K j (f j)) 24 rfl ?_) rfl ⟨rfl,hC.setRow (.inr (by omega)) _⟩;have hs:=hR.row (ax v (mQ K f 16));rwa [ni v (f:=mQ K f 16) (g:=fun j=>fR K j (f j)) (fun j hj=>if_pos hj)]at hs
open Go.RowKit Go.Lib Go.Sort
def iR(f:Nat→Nat):List Value:=(XC 16).map (fun j=>.int .u8 (f j:Int))
def Kp(f:Nat→Nat):List Lit:=(XC 16).map (fun j=>.int .u8 (f j:Int))
def oL(f g:Nat→Nat):Bool:=(XC 16).all fun j=>f j==g j
theorem kt(f g:Nat→Nat):oL f g=true↔∀j,j < 16→f j=g j:=by simp[oL]
theorem Iq(f g:Nat→Nat):Kp f=Kp g↔oL f g=true:=by
 rw[kt];unfold Kp;rw[List.map_inj_left];constructor
 ·intro h j hj
  have:=h j (by simpa using hj);injection this with _ h2;omega
 ·intro h j hj
  rw[h j (by simpa using hj)]
theorem CX{α β:Type}(g:α→Option β)(h:α→β):∀l:List α,(∀x∈l,g x=some (h x))→l.mapM g=some (l.map h)
 | [],_=>by simp
 |x::l,H=>by rw[XV,H x (by simp),CX g h l (fun y hy=>H y (by simp[hy]))];rfl
theorem DE{α β:Type}(h:α→β):∀l:List α,(l.map fun x=>[h x]).flatten=l.map h
 | []=>rfl
 |x::l=>by rw[Yf,List.flatten_cons,DE h l];rfl
theorem WA(d x:Nat)(hx:x < 256):prog.keyLits (d+1) 5 [.int .u8 (x:Int)]=some [.int .u8 (x:Int)]:=by
 have hw:(Lit.int .u8 (x:Int)).wf=true:=by simp[Lit.wf,Yd,Ye,X9,Yb];omega
 simp[Program.keyLits,underlying5,hw]
theorem TQ:prog.cellsOf 5=1:=by kernel_rfl
theorem vy:prog.cellsOf 22=16:=by kernel_rfl
theorem NY(f:Nat→Nat)(i:Nat)(hi:i < 16):((iR f).drop (i*1)).take 1=[.int .u8 (f i:Int)]:=by
 rw[Nat.mul_one];have:(iR f)[i]?=some (.int .u8 (f i:Int)):=by simp[iR,hi]
 have hl:i < (iR f).length:=by simp[iR];omega
 rw[XD hl];rw[Xy hl]at this;injection this with this;rw[this];rfl
theorem FG(d:Nat)(f:Nat→Nat)(hf:∀j,f j < 256):prog.keyLits (d+2) 22 (iR f)=some (Kp f):=by unfold Program.keyLits;rw[underlying22];simp only;rw[if_pos (by rw[vy];simp[iR]),CX _ (fun i=>[Lit.int .u8 (f i:Int)]) _ (fun i hi=>by rw[TQ,NY f i (by simpa using hi)];exact WA d _ (hf i)),Option.map_some,DE];rfl
theorem VF(f g:Nat→Nat)(hf:∀j,f j < 256)(hg:∀j,g j < 256)(W:World):(Op.equalIn 10000 22 (.agg (iR f).toArray) (.agg (iR g).toArray)).run prog W=.ok (oL f g) W:=by
 obtain⟨r,h1,h2⟩:=run_equalIn_deep (P:=prog) 9995 5 22 (by kernel_rfl) W 5 5 (.agg (iR f).toArray) (.agg (iR g).toArray) _ _ (by simp[XR,underlying22,vy,iR]) (by simp[XR,underlying22,vy,iR]) (FG 3 f hf) (FG 3 g hg);simp only[Yh]at h1;rw[Iq]at h2;have e:r=oL f g:=by revert h2;cases r<;>cases oL f g<;>simp
 rw[h1,e]
theorem Ky(v:Bool)(f:Nat→Nat):(ax v f).toArray.extract 1 17=(iR f).toArray:=by apply Array.toList_inj.1;simp[ax,iR,XH]
theorem Li:(prog.info? 22).map (·.size)=some 16:=by kernel_rfl
theorem lQ(f:Nat→Nat):(iR f).length=16:=by simp[iR]
theorem H3(x y:Operand)(a b:Array Value)(W:World):(eqGuard .neq 22 x y (.agg a) (.agg b)).run prog W=.ok () W:=by kernel_rfl
theorem Ic(v:Bool)(f:Nat→Nat)(W:World):(XO 24 (.agg (ax v f).toArray) 1).run prog W=.ok (.agg (iR f).toArray) W:=by
 have h:(XO 24 (.agg (ax v f).toArray) 1).run prog W=.ok (.agg ((ax v f).toArray.extract 1 17)) W:=by kernel_rfl
 rw[h,Ky]
theorem Ab(v:Bool)(f:Nat→Nat)(W:World):(XO 24 (.agg (ax v f).toArray) 0).run prog W=.ok (.bool v) W:=by kernel_rfl
theorem PU{w:World}{g:Nat}{t:TypeId}{v:Bool}{f:Nat→Nat}(hb:aw w g t (ax v f)):∀W,(∃p:Regrown,W=grow (redrawn w p.d) p.os)→W.rangeAt g 1 (iR f):=
 hb.qe 1 (iR f) fun j x hx=>by
  have hj:j < 16:=by have:=(XA.1 hx).1;rwa [lQ]at this
  rw[cM v f j hj];rw[←hx];simp[iR,hj]
attribute [local go_sem] H3 Ic Ab
theorem MN(k i x:Nat):fR k i x≤x:=by
 unfold fR;by_cases h:k≤8*i
 ·rw[if_pos h];exact X4 _
 ·rw[if_neg h]
  by_cases h2:k < 8*i+8
  ·rw[if_pos h2];exact Nat.div_mul_le_self _ _
  ·rw[if_neg h2];exact XE _
set_option maxHeartbeats 2000000 in
theorem yN(v:Bool)(f:Nat→Nat)(hf:∀j,f j < 256)(w:World) :
  Calls prog 109 #[.agg (ax v f).toArray] w fun e w'=>e=.returned (.int .i64 (if oL (fun j=>fR (wid v) j (f j)) f then 0 else 150))∧ai [] w w':=by
 have HB:=hid (aw.new w 24 (ax v f).toArray);have HC:=hid ((ai.refl [] w).alloc (.cells (ax v f).toArray 24));have HW:=hid (pI (yP v f));have HM:=hid (pI (xk v f (wid v) hf (fG v)));have hE:=VF (fun j=>fR (wid v) j (f j)) f (fun j=>XQ (MN _ _ _) (hf j)) hf;obtain⟨b,hb⟩:∃b,b=oL (fun j=>fR (wid v) j (f j)) f:=⟨_,rfl⟩;rw[←hb]at hE;rw[←hb];clear hb;go_enter func109,ntmps109
 go_wp2
 obtain⟨w1,hw1⟩:∃w1,w1=w.alloc (.cells (ax v f).toArray 24):=⟨_,rfl⟩;rw[←hw1];have B1:aw w1 w.heap.size 24 (ax v f):=by rw[hw1];exact HB.out
 have C1:ai [] w w1:=by rw[hw1];exact HC.out
 clear hw1 HB HC;have R0:=B1.wD;have R1:=PU B1;refine wp_region_quiet_below (by kernel_rfl) (by kernel_rfl) ?_;refine nq rfl 24 _ rfl w.heap.size 0 rfl (ax v f) _ R0 underlying24 rfl (fH.trans (by rw[aE])) ?_;refine nq rfl 24 _ rfl w.heap.size 0 rfl (ax v f) _ R0 underlying24 rfl (fH.trans (by rw[aE])) ?_;repeat (first|refine nq rfl 22 _ rfl w.heap.size 1 rfl (iR f) _ R1 underlying22 rfl (Li.trans (by rw[lQ])) ?_|go_big_quiet_step ((first | (go_at_call 107;with_reducible exact HW.out _ _ _) | (go_at_call 108;with_reducible exact HM.out _ _ _)))|quiet_step ((first | (go_at_call 107;with_reducible exact HW.out _ _ _) | (go_at_call 108;with_reducible exact HM.out _ _ _))))
 refine wpQuiet_nil ?_;intro w3 hw3;have C3:=fV hw3;clear hw3 R0 R1;have fin:=hid (C1.trans C3);cases b
 ·go_wp2
  go_ret
  exact⟨rfl,fin.out⟩
 ·go_wp2
  go_ret
  exact⟨rfl,fin.out⟩
def cD(v:Bool)(n:Nat):List Value:=ax v (ah n)
theorem cg(v:Bool)(n:Nat):(cD v n).length=17:=aE v _
theorem q9{n m:Nat}(hn:n < 2^128)(hm:m < 2^128):oL (ah n) (ah m)=decide (n=m):=by
 by_cases h:n=m
 ·rw[decide_eq_true h,h];exact(kt _ _).2 fun _ _=>rfl
 ·rw[decide_eq_false h]
  rw[←Bool.not_eq_true,kt];exact fun q=>h (lk hn hm q)
theorem yY{n k:Nat}(hn:n < 2^128)(hk:k≤128):oL (fun j=>fR k j (ah n j)) (ah n)=decide (df n k=n):=by rw[←q9 (XQ (xm n k) hn) hn];rw[Bool.eq_iff_iff,kt,kt];exact⟨fun h j hj=>by rw[mS n k j hj hk];exact h j hj,fun h j hj=>by rw[←mS n k j hj hk];exact h j hj⟩
theorem Oo(v:Bool)(n k:Nat)(hk:k≤128):ax v (fun j=>fR k j (ah n j))=cD v (df n k):=
 ni v fun j hj=>(mS n k j hj hk).symm
theorem O3(v:Bool)(n:Nat)(w:World):Calls prog 107 #[.agg (cD v n).toArray] w (Rn w (.int .i64 (wid v:Nat))):=yP v _ w
theorem MM(v:Bool)(n K:Nat)(hK:K≤128)(w:World):Calls prog 108 #[.agg (cD v n).toArray,.int .i64 K] w (Rn w (.agg (cD v (df n K)).toArray)):=by have h:=xk v (ah n) K (ba n) hK w;rwa [Oo v n K hK]at h
def dM(v:Bool)(n:Nat):Int:=if jt v n then 0 else 150
theorem pK(v:Bool)(n:Nat)(hn:n < 2^128)(w:World):Calls prog 109 #[.agg (cD v n).toArray] w (Rn w (.int .i64 (dM v n))):=by have h:=yN v (ah n) (ba n) w;rwa [yY hn (fG v)]at h
open Go.RowKit Go.Lib Go.Sort
def dt(v:Bool)(n:Nat)(k:Int):List Value:=cD v n++[.int .i64 k]
theorem fY(v:Bool)(n:Nat)(k:Int):(dt v n k).length=18:=by simp[dt,cg]
theorem vm(v:Bool)(n:Nat)(k:Int)(j:Nat)(x:Value)(h:(cD v n)[j]?=some x):(dt v n k)[j]?=some x:=by unfold dt;rw[List.getElem?_append_left (XA.1 h).1,h]
theorem iK(v:Bool)(n:Nat)(k:Int):(dt v n k)[17]?=some (.int .i64 k):=by unfold dt;rw[List.getElem?_append_right (by rw[cg];omega),cg];rfl
theorem RF(v:Bool)(n j:Nat)(x:Value)(h:(iR (ah n))[j]?=some x):(cD v n)[1+j]?=some x:=by
 have hj:j < 16:=by have:=(XA.1 h).1;rwa [lQ]at this
 unfold cD;rw[cM v _ j hj,←h];simp[iR,hj]
theorem Aw:(prog.info? 29).map (·.size)=some 18:=by kernel_rfl
theorem Ml(v:Bool)(n:Nat)(k:Int):(dt v n k).toArray.all (·.oneCell')=true:=by simp[dt,cD,ax,XL]
structure WW(w:World)(g:Nat)(v:Bool)(n:Nat)(k:Int):Prop where
 whole:∀W,(∃p:Regrown,W=grow (redrawn w p.d) p.os)→W.rangeAt g 0 (dt v n k)
 cD:∀W,(∃p:Regrown,W=grow (redrawn w p.d) p.os)→W.rangeAt g 0 (cD v n)
 Xt:∀W,(∃p:Regrown,W=grow (redrawn w p.d) p.os)→W.rangeAt g 1 (iR (ah n))
theorem aw.Jj{w:World}{g:Nat}{t:TypeId}{v:Bool}{n:Nat}{k:Int}(hb:aw w g t (dt v n k)):WW w g v n k:=
 ⟨hb.wD,hb.qe 0 _ (fun j x hx=>by rw[XS];exact vm v n k j x hx),hb.qe 1 _ (fun j x hx=>vm v n k _ x (RF v n j x hx))⟩
def dh(v:Bool)(n:Nat)(k:Int):Int:=if gy v n k then 0 else 151
theorem DL(v:Bool)(n:Nat)(W:World):(XO 24 (.agg (cD v n).toArray) 1).run prog W=.ok (.agg (iR (ah n)).toArray) W:=Ic v _ W
theorem xW(v:Bool)(n:Nat)(W:World):(XO 24 (.agg (cD v n).toArray) 0).run prog W=.ok (.bool v) W:=Ab v _ W
attribute [local go_sem] H3 DL xW
set_option maxHeartbeats 2000000 in
theorem vx(v:Bool)(n:Nat)(k:Int)(hn:n < 2^128)(w:World) :
  Calls prog 50 #[.agg (dt v n k).toArray] w fun e w'=>e=.returned (.int .i64 (dh v n k))∧ai [] w w':=by
 have HB:=hid (aw.new w 29 (dt v n k).toArray);have HC:=hid ((ai.refl [] w).alloc (.cells (dt v n k).toArray 29));have HW:=hid (pI (O3 v n));have hw128:=fG v;by_cases h1:k < 0
 ·have fin:dh v n k=151:=by unfold dh gy;rw[decide_eq_false (by omega)];rfl
  have FIN:=hid fin;clear fin;go_enter func50,ntmps50
  go_wp2
  obtain⟨w1,hw1⟩:∃w1,w1=w.alloc (.cells (dt v n k).toArray 29):=⟨_,rfl⟩;rw[←hw1];have B1:aw w1 w.heap.size 29 (dt v n k):=by rw[hw1];exact HB.out
  have C1:ai [] w w1:=by rw[hw1];exact HC.out
  clear hw1 HB HC;have ck:=cell_regrown (B1.cell_of (iK v n k));refine wp_region_quiet_below (by kernel_rfl) (by kernel_rfl) ?_;repeat (first|go_big_quiet_step (fail)|quiet_step (fail))
  refine wpQuiet_nil ?_;intro w3 hw3;have C3:=fV hw3;clear hw3 ck;have HF:=hid (C1.trans C3);go_wp2
  rw[FIN.out];go_ret
  exact⟨rfl,HF.out⟩
 ·obtain⟨K,rfl⟩:∃K:Nat,k=(K:Int):=⟨k.toNat,by omega⟩
  have d1:decide ((K:Int) < 0)=false:=decide_eq_false (by omega);by_cases h2:(wid v:Int) < (K:Int)
  ·have d2:decide (wid v < K)=true:=decide_eq_true (by omega)
   have fin:dh v n K=151:=by unfold dh gy;rw[decide_eq_false (p:=(K:Int)≤(wid v:Int)) (by omega)];simp
   have FIN:=hid fin;clear fin hw128;go_enter func50,ntmps50
   go_wp2
   obtain⟨w1,hw1⟩:∃w1,w1=w.alloc (.cells (dt v n K).toArray 29):=⟨_,rfl⟩;rw[←hw1];have B1:aw w1 w.heap.size 29 (dt v n K):=by rw[hw1];exact HB.out
   have C1:ai [] w w1:=by rw[hw1];exact HC.out
   clear hw1 HB HC;have ck:=cell_regrown (B1.cell_of (iK v n K));have R:=B1.Jj;refine wp_region_quiet_below (by kernel_rfl) (by kernel_rfl) ?_;repeat (first | (go_big_quiet_want;refine ia 24 _ rfl w.heap.size 0 rfl (cD v n) _ R.cD underlying24 rfl (fH.trans (by rw[cg])) ?_;go_big_quiet_on)|go_big_quiet_step ((go_at_call 107;with_reducible exact HW.out _ _ _))|quiet_step ((go_at_call 107;with_reducible exact HW.out _ _ _)))
   refine wpQuiet_nil ?_;intro w3 hw3;have C3:=fV hw3;clear hw3 ck R;have HF:=hid (C1.trans C3);go_wp2
   rw[FIN.out];go_ret
   exact⟨rfl,HF.out⟩
  ·have d2:decide (wid v < K)=false:=decide_eq_false (by omega)
   obtain⟨b,hb⟩:∃b,b=decide (df n K=n):=⟨_,rfl⟩;have fin:dh v n K=if b then 0 else 151:=by unfold dh gy;rw[decide_eq_true (p:=(K:Int)≤(wid v:Int)) (by omega),hb];simp
   have FIN:=hid fin;have HM:=hid (pI (MM v n K (by omega)));have hE:=VF (ah (df n K)) (ah n) (ba _) (ba _);rw[q9 (XQ (xm n K) hn) hn,←hb]at hE;clear hb;clear fin hw128;go_enter func50,ntmps50
   go_wp2
   obtain⟨w1,hw1⟩:∃w1,w1=w.alloc (.cells (dt v n K).toArray 29):=⟨_,rfl⟩;rw[←hw1];have B1:aw w1 w.heap.size 29 (dt v n K):=by rw[hw1];exact HB.out
   have C1:ai [] w w1:=by rw[hw1];exact HC.out
   clear hw1 HB HC;have ck:=cell_regrown (B1.cell_of (iK v n K));have R:=B1.Jj;refine wp_region_quiet_below (by kernel_rfl) (by kernel_rfl) ?_;repeat (first | (go_big_quiet_want;refine ia 24 _ rfl w.heap.size 0 rfl (cD v n) _ R.cD underlying24 rfl (fH.trans (by rw[cg])) ?_;go_big_quiet_on) | (go_big_quiet_want;refine ia 22 _ rfl w.heap.size 1 rfl (iR (ah n)) _ R.Xt underlying22 rfl (Li.trans (by rw[lQ])) ?_;go_big_quiet_on)|go_big_quiet_step ((first | (go_at_call 107;with_reducible exact HW.out _ _ _) | (go_at_call 108;with_reducible exact HM.out _ _ _)))|quiet_step ((first | (go_at_call 107;with_reducible exact HW.out _ _ _) | (go_at_call 108;with_reducible exact HM.out _ _ _))))
   refine wpQuiet_nil ?_;intro w3 hw3;have C3:=fV hw3;clear hw3 ck R;have HF:=hid (C1.trans C3);cases b
   ·go_wp2
    rw[FIN.out];go_ret
    exact⟨rfl,HF.out⟩
   ·go_wp2
    rw[FIN.out];go_ret
    exact⟨rfl,HF.out⟩
open Go.RowKit Go.Lib Go.Sort
theorem Tt{ops:Array Oper}{rest:List Oper}{o:Oper}{a:Act}{w:World}{Q:Exit→Act→World→Prop}(hgd:o.guard=none)(x:Operand)(ho:o.op=.load 29 x)
  (g:Nat) (hx:a.eval x=.pointer (some ⟨g,0,none⟩)) (t:TypeId) (v:Bool) (n:Nat) (k:Int) (hb:aw w g t (dt v n k))
  (h:wpList prog ops Q rest (a.put o.dst (.agg (dt v n k).toArray)) w):wpList prog ops Q (o::rest) a w:=
 wpList_load_row hgd 29 x ho g hx t _ (0,0) _ hb underlying29 rfl (Aw.trans (by simp[fY])) h
theorem IC{ops:Array Oper}{rest:List Oper}{o:Oper}{a:Act}{w:World}{Q:Exit→Act→World→Prop}(hgd:o.guard=none)(x y:Operand)(ho:o.op=.store 29 x y)
  (g:Nat) (v:Bool) (n:Nat) (k:Int) (hx:a.eval x=.pointer (some ⟨g,0,none⟩)) (hy:a.eval y=.agg (dt v n k).toArray) (t:TypeId) (old:List Value) (hb:aw w g t old) (hl:old.length=18)
  (h:wpList prog ops Q rest (a.put o.dst undef) (w.setRow g (dt v n k).toArray)):wpList prog ops Q (o::rest) a w:=
 wpList_store_row hgd 29 x y ho g _ hx hy t old.toArray hb (Aw.trans (by simp[fY])) (by simp[fY,hl]) (Ml v n k) h
theorem jH{ops:Array Oper}{rest:List Oper}{o:Oper}{a:Act}{w:World}{Q:Exit→Act→World→Prop}(hgd:o.guard=none)(x:Operand)(ho:o.op=.load 24 x)
  (g:Nat) (hx:a.eval x=.pointer (some ⟨g,0,none⟩)) (t:TypeId) (v:Bool) (n:Nat) (hb:aw w g t (cD v n))
  (h:wpList prog ops Q rest (a.put o.dst (.agg (cD v n).toArray)) w):wpList prog ops Q (o::rest) a w:=yF hgd x ho g hx t v (ah n) hb h
def jO:Array Value:=#[.bool false,.int .u8 0,.int .u8 0,.int .u8 0,.int .u8 0,.int .u8 0,.int .u8 0,.int .u8 0,.int .u8 0,.int .u8 0,.int .u8 0,.int .u8 0,.int .u8 0,.int .u8 0,.int .u8 0,.int .u8 0,.int .u8 0,.int .i64 0]
theorem OX:jO=(dt false 0 0).toArray:=by kernel_rfl
theorem Lf{ops:Array Oper}{rest:List Oper}{o:Oper}{a:Act}{w:World}{Q:Exit→Act→World→Prop}(hgd:o.guard=none)(x y:Operand)(ho:o.op=.store 29 x y)
  (g:Nat) (hx:a.eval x=.pointer (some ⟨g,0,none⟩)) (hy:a.eval y=.agg jO) (t:TypeId) (old:List Value) (hb:aw w g t old) (hl:old.length=18)
  (h:wpList prog ops Q rest (a.put o.dst undef) (w.setRow g (dt false 0 0).toArray)):wpList prog ops Q (o::rest) a w:=
 IC hgd x y ho g false 0 0 hx (by rw[hy,OX]) t old hb hl h
theorem GV{fn:Func}{p q:Tmp}(h:fn.results=#[.cell p 29,.tmp q])(tmps:Array Value)(w:World)(g:Nat)(v:Bool)(n:Nat)(k:Int)(t:TypeId)(u:Value)
  (hp:tmps.getD p undef=.pointer (some ⟨g,0,none⟩)) (hq:tmps.getD q undef=u) (hb:aw w g t (dt v n k)):(results fn tmps).run prog w=.ok (.tuple #[.agg (dt v n k).toArray,u]) w:=by
 have hp':tmps[p]?.getD undef=.pointer (some ⟨g,0,none⟩):=by simpa using hp
 have hq':tmps[q]?.getD undef=u:=by simpa using hq
 simp[results,h,hp',hq',asAddr,run_loadVar_row w g t 29 _ (0,0) _ hb underlying29 rfl (Aw.trans (by simp[fY]))]
theorem Rs(v:Bool)(n:Nat)(k:Int):prog.built 29 [(0,.agg (cD v n).toArray),(1,.int .i64 k)]=some (dt v n k).toArray:=by kernel_rfl
theorem Ry{ops:Array Oper}{rest:List Oper}{o:Oper}{a:Act}{w:World}{Q:Exit→Act→World→Prop}(hg:o.guard=none)(x y:Operand)(ho:o.op=.build 29 #[(0,x),(1,y)])(v:Bool)(n:Nat)(k:Int)
  (hx:a.eval x=.agg (cD v n).toArray) (hy:a.eval y=.int .i64 k) (h:wpList prog ops Q rest (a.put o.dst (.agg (dt v n k).toArray)) w):wpList prog ops Q (o::rest) a w:=by
 have e:prog.built 29 ((#[(0,x),(1,y)]:Array (Nat×Operand)).map fun(i,z)=>(i,a.eval z)).toList=some (dt v n k).toArray:=by simp only[List.map_toArray,Yf,List.map_nil,hx,hy];exact Rs v n k
 refine wpList_build hg 29 _ ho (by rw[e];rfl) ?_;rw[e];exact h
open Go.RowKit Go.Lib Go.Sort
def OH(w:World)(g o n:Nat):Prop:=∀j,j < 16→w.cell? ⟨g,o+j,none⟩=some (.int .u8 (ah n j:Int))
theorem OH.aJ{w w':World}{g o n:Nat}(h:OH w g o n)(hc:ai [] w w'):OH w' g o n:=fun j hj=>by have hl:=block_lt_of_cell (h j hj);rw[hc.cell hl (by simp)];exact h j hj
open Go.RowKit Go.Lib Go.Sort
open Go.RowKit Go.Lib Go.Sort
theorem Sc{ops:Array Oper}{rest:List Oper}{o:Oper}{a:Act}{w:World}{Q:Exit→Act→World→Prop}(hgd:Region.wanted o (yielded ops a.tmps)=true)(x:Operand)(ho:o.op=.load 29 x)
  (g:Nat) (hx:a.eval x=.pointer (some ⟨g,0,none⟩)) (t:TypeId) (v:Bool) (n:Nat) (k:Int) (hb:aw w g t (dt v n k))
  (h:wpList prog ops Q rest (a.put o.dst (.agg (dt v n k).toArray)) w):wpList prog ops Q (o::rest) a w:=by
 unfold wpList;rw[if_pos hgd];exact .inl (wp_load_row 29 x ho g hx t _ (0,0) _ hb underlying29 rfl (Aw.trans (by simp[fY])) h)
theorem Vu{ops:Array Oper}{rest:List Oper}{o:Oper}{a:Act}{w:World}{Q:Exit→Act→World→Prop}(hgd:Region.wanted o (yielded ops a.tmps)=true)(x:Operand)(ho:o.op=.load 24 x)
  (g:Nat) (hx:a.eval x=.pointer (some ⟨g,0,none⟩)) (t:TypeId) (v:Bool) (n:Nat) (k:Int) (hb:aw w g t (dt v n k))
  (h:wpList prog ops Q rest (a.put o.dst (.agg (cD v n).toArray)) w):wpList prog ops Q (o::rest) a w:=by
 unfold wpList;rw[if_pos hgd];exact .inl (wp_load_mid 24 x ho g 0 hx (cD v n) _ (fun j y hy=>hb.cell_of (by rw[XS];exact vm v n k j y hy)) underlying24 rfl (fH.trans (by rw[cg])) h)
theorem Vt{ops:Array Oper}{rest:List Oper}{o:Oper}{a:Act}{w:World}{Q:Exit→Act→World→Prop}(hgd:o.guard=none)(x:Operand)(ho:o.op=.load 24 x)
  (g:Nat) (hx:a.eval x=.pointer (some ⟨g,0,none⟩)) (t:TypeId) (v:Bool) (n:Nat) (k:Int) (hb:aw w g t (dt v n k))
  (h:wpList prog ops Q rest (a.put o.dst (.agg (cD v n).toArray)) w):wpList prog ops Q (o::rest) a w:=
 Vu (by unfold Region.wanted;rw[hgd]) x ho g hx t v n k hb h
open Go.RowKit Go.Lib Go.Sort
open Go.RowKit Go.Lib Go.Sort
def FH(v:Bool)(n:Nat):List Lit:=.bool v::Kp (ah n)
def Qz(v:Bool)(n:Nat)(k:Int):List Lit:=FH v n++[.int .i64 k]
theorem QA(v v':Bool)(n m:Nat)(hn:n < 2^128)(hm:m < 2^128):FH v n=FH v' m↔v=v'∧n=m:=by
 unfold FH;rw[List.cons.injEq,Iq,q9 hn hm,decide_eq_true_eq];constructor
 ·rintro⟨h1,h2⟩
  injection h1 with h1;exact⟨h1,h2⟩
 ·rintro⟨rfl,rfl⟩
  exact⟨rfl,rfl⟩
theorem Da(v:Bool)(n:Nat):(FH v n).length=17:=by simp[FH,Kp]
theorem Qy(v v':Bool)(n m:Nat)(k j:Int)(hn:n < 2^128)(hm:m < 2^128):Qz v n k=Qz v' m j↔v=v'∧n=m∧k=j:=by
 unfold Qz;constructor
 ·intro h
  obtain⟨h1,h2⟩:=List.append_inj h (by rw[Da,Da]);obtain⟨h3,h4⟩:=(QA v v' n m hn hm).1 h1;injection h2 with h2;injection h2 with _ h2;exact⟨h3,h4,h2⟩
 ·rintro⟨rfl,rfl,rfl⟩
  rfl
theorem Io:prog.cellsOf 24=17:=by kernel_rfl
theorem BG:prog.cellsOf 29=18:=by kernel_rfl
theorem TR:prog.cellsOf 4=1:=by kernel_rfl
theorem TS:prog.cellsOf 3=1:=by kernel_rfl
theorem WB(d:Nat)(v:Bool):prog.keyLits (d+1) 4 [.bool v]=some [.bool v]:=by simp[Program.keyLits,underlying4]
theorem WC(d:Nat)(k:Int)(h0 : -9223372036854775808≤k)(h1:k≤9223372036854775807):prog.keyLits (d+1) 3 [.int .i64 k]=some [.int .i64 k]:=by
 have hw:(Lit.int .i64 k).wf=true:=by simp[Lit.wf,Yd,Ye,X9,Yb];omega
 simp[Program.keyLits,underlying3,hw]
theorem Oq(v:Bool)(n:Nat):((cD v n).drop 1).take 16=iR (ah n):=by unfold cD ax iR;rw[List.drop_one,List.tail_cons,XH (by simp)]
theorem Tp(d:Nat)(v:Bool)(n:Nat):prog.keyLits (d+3) 24 (cD v n)=some (FH v n):=by have h1:=WB (d+1) v;have h2:=FG d (ah n) (ba n);have h3:=Oq v n;have h4:((cD v n).drop 0).take 1=[.bool v]:=rfl;unfold Program.keyLits;rw[underlying24];simp only;rw[if_pos ⟨by rw[Io,cg],by simp⟩];simp only[XV,Yg,TR,vy,h3,h4,h1,h2];rfl
theorem MU(d:Nat)(v:Bool)(n:Nat)(k:Int)(h0 : -9223372036854775808≤k)(h1:k≤9223372036854775807):prog.keyLits (d+4) 29 (dt v n k)=some (Qz v n k):=by
 have e1:=Tp d v n;have e2:=WC (d+2) k h0 h1;have e3:((dt v n k).drop 0).take 17=cD v n:=by unfold dt;rw[List.drop_zero,List.take_left' (cg v n)]
 have e4:((dt v n k).drop 17).take 1=[.int .i64 k]:=by unfold dt;rw[List.drop_left' (cg v n)];rfl
 unfold Program.keyLits;rw[underlying29];simp only;rw[if_pos ⟨by rw[BG,fY],by simp⟩];simp only[XV,Yg,Io,TS,e1,e2,e3,e4];rfl
theorem WN(v v':Bool)(n m:Nat)(k j:Int)(hn:n < 2^128)(hm:m < 2^128)(hk : -9223372036854775808≤k∧k≤9223372036854775807)(hj : -9223372036854775808≤j∧j≤9223372036854775807)(W:World):(Op.equalIn 10000 29 (.agg (dt v n k).toArray) (.agg (dt v' m j).toArray)).run prog W=.ok (decide (v=v'∧n=m∧k=j)) W:=by
 obtain⟨r,h1,h2⟩:=run_equalIn_deep (P:=prog) 9995 5 29 (by kernel_rfl) W 5 5 (.agg (dt v n k).toArray) (.agg (dt v' m j).toArray) _ _ (by simp[XR,underlying29,BG,fY]) (by simp[XR,underlying29,BG,fY]) (MU 1 v n k hk.1 hk.2) (MU 1 v' m j hj.1 hj.2);simp only[Yh]at h1;rw[Qy v v' n m k j hn hm]at h2;have e:r=decide (v=v'∧n=m∧k=j):=by rw[Bool.eq_iff_iff,h2,decide_eq_true_eq]
 rw[h1,e]
theorem QS(op:BinOp)(x y:Operand)(a b:Array Value)(W:World):(eqGuard op 29 x y (.agg a) (.agg b)).run prog W=.ok () W:=by cases op<;>kernel_rfl
set_option maxRecDepth 100000
open Go.RowKit Go.Lib Go.Sort _root_.Go.Proofs.Tryz
set_option maxRecDepth 100000
structure eF(w:World):Prop where
 m0:∃m,w.cell? ⟨1,0,none⟩=some (.int .i64 m)
 e1:∃ev,w.cell? ⟨3,0,none⟩=some ev∧(ev=.nilIface∨∃te pe,ev=.iface te pe)
 e2:∃ev,w.cell? ⟨4,0,none⟩=some ev∧(ev=.nilIface∨∃te pe,ev=.iface te pe)
 V3:Lib.TabIs prog w "internal/strconv.uint64pow10" .u64 Lib.pow10Tab
 tz:w.cell? ⟨8,15,none⟩=some (.int .u8 4)
 low:9≤w.heap.size
theorem KA{w w':World}{g:Nat}(hg:prog.globalNamed "internal/strconv.uint64pow10"=some g)(h:Lib.TabIs prog w "internal/strconv.uint64pow10" .u64 Lib.pow10Tab)(hc:w'.heap[g]?=w.heap[g]?):Lib.TabIs prog w' "internal/strconv.uint64pow10" .u64 Lib.pow10Tab:=by unfold Lib.TabIs World.var? at*;rw[hg]at h ⊢;simp only[Option.bind_some]at h ⊢;rw[hc];exact h
theorem AR:prog.globalNamed "internal/strconv.uint64pow10"=some 2:=by kernel_rfl
theorem eF.JR{w w':World}(h:eF w)(hs:w.heap.size≤w'.heap.size)(hc:∀k,k < 9→w'.heap[k]?=w.heap[k]?):eF w':=by have hl:=h.low;have e:∀k i,k < 9→w'.cell? ⟨k,i,none⟩=w.cell? ⟨k,i,none⟩:=fun k i hk=>World.cell?_of_block (w:=w) (hc k hk);exact⟨by rw[e 1 0 (by omega)];exact h.m0,by rw[e 3 0 (by omega)];exact h.e1,by rw[e 4 0 (by omega)];exact h.e2,KA AR h.V3 (hc 2 (by omega)),by rw[e 8 15 (by omega)];exact h.tz,by omega⟩
theorem eF.aJ{S:List Nat}{w w':World}(h:eF w)(hc:ai S w w')(hS:∀k∈S,9≤k):eF w':=
 h.JR hc.size fun k hk=>hc.block k (by have:=h.low;omega) (fun hm=>by have:=hS k hm;omega)
theorem eF.dO{w w':World}(h:eF w)(hc:ai [] w w'):eF w':=h.aJ hc (by simp)
theorem eF.alloc{w:World}(h:eF w)(o:Obj):eF (w.alloc o):=h.dO ((ai.refl [] w).alloc o)
theorem Wh(w:World)(h:w.cell? ⟨8,15,none⟩=some (.int .u8 4)):Calls prog 247 #[.int .u64 16] w fun e w'=>e=.returned (.int .i64 4)∧w'=w:=by
 have h1:XG.wrap (bits BinOp.and XG 16 (XG.wrap (-16))*285870213051353865) / 288230376151711744=15:=by decide +kernel
 go_enter func247,ntmps247
 go_wp2
 go_ret
 exact⟨rfl,rfl⟩
theorem UC(w:World)(h:w.cell? ⟨8,15,none⟩=some (.int .u8 4)):Calls prog 237 #[.int .u64 16] w fun e w'=>e=.returned (.int .i64 4)∧w'=w:=by
 go_enter func237,ntmps237
 go_wp2_with (go_at_call 247;refine(Wh _ h).mono ?_;rintro e w2 ⟨rfl,rfl⟩)
 go_ret
 exact⟨rfl,rfl⟩
theorem Vd(w:World):Calls prog 236 #[.int .i64 16] w fun e w'=>e=.returned (.bool true)∧ai [] w w':=by
 have h1:bits BinOp.and IntKind.i64 16 15=0:=by decide+kernel
 go_enter func236,ntmps236
 go_wp2
 go_ret
 exact⟨rfl,ai.refl [] w⟩
def Uk(l:List UInt8):List Value:=l.map fun b=>.int .u8 (b.toNat:Int)
theorem Sz{l:List UInt8}{j:Nat}(hj:j < l.length):(Uk l)[j]?=some (.int .u8 (l[j].toNat:Int)):=by simp[Uk,hj]
theorem VS(x:Nat)(hx:x < 65536):bits BinOp.and XG (x:Int) 15=((x%16:Nat):Int):=by have h:=u64_and_nat x 15 (by omega) (by omega);rw[show(15:Nat)=2^4 - 1 by rfl,Nat.and_two_pow_sub_one_eq_mod]at h;exact h
def QO:ByteArray:={ data:=#[48,49,50,51,52,53,54,55,56,57,97,98,99,100,101,102,103,104,105,106,107,108,109,110,111,112,113,114,115,116,117,118,119,120,121,122] }
theorem Nh:∀d:Fin 16,((QO[d.val]'(by have:=d.2;exact Xz this (by decide))).toNat:Int)=((sig d.val).toNat:Int):=by decide+kernel
theorem HQ(d:Nat)(h:d < 16)(h2:d < QO.size):((QO[d]'h2).toNat:Int)=((sig d).toNat:Int):=Nh ⟨d,h⟩
theorem zT{L:List Value}{i:Nat}{ds:List UInt8}(hi:i < L.length)(hD:L.drop (i+1)=Uk ds)(c:UInt8):(L.set i (.int .u8 (c.toNat:Int))).drop i=Uk (c::ds):=by rw[XD (by simpa using hi),List.getElem_set_self,List.drop_set_of_lt (by omega),hD];rfl
theorem VD{W:World}{g k:Nat}{t:TypeId}{L:List Value}{b:List UInt8}{ds:List UInt8}(hs:b=ds)(hD:L.drop k=Uk ds)(hB:aw W g t L)(cap:Nat) :
  (convert 82 9 (.slice (some ⟨g,k,none⟩) b.length cap)).run prog W=.ok (.string ⟨b.toArray⟩) W:=by
 subst hs;exact run_convert_bytes_back W 82 9 5 ⟨g,k,none⟩ cap b underlying82 underlying5 underlying9 fun j hj=>by refine hB.VU k j _ ?_;rw[hD];exact Sz hj
set_option maxHeartbeats 4000000 in
theorem yL(n:Nat)(hn:n < 65536)(w:World)(hl:eF w):Calls prog 199 #[.slice none 0 0,.int .u64 n,.int .i64 16,.bool false,.bool false] w fun e w'=>e=.returned (.tuple #[.slice none 0 0,.string ⟨(aq 16 n).toArray⟩])∧ai [] w w':=by
 have H0:=hid (aw.new w 286 zeroCells286);have HC:=hid ((ai.refl [] w).alloc (.cells zeroCells286 286));have HT:=hid (hl.alloc (.cells zeroCells286 286));go_enter func199,ntmps199
 go_wp2_with (first | (go_at_call 236;refine(Vd _).mono ?_;rintro e w2 ⟨rfl,C2⟩) | (go_at_call 237;refine(UC _ (HT.out.dO C2).tz).mono ?_;rintro e w3 ⟨rfl,rfl⟩))
 obtain⟨wo,hwo⟩:∃wo,wo=w3:=⟨_,rfl⟩;have HB0:=H0.out.aJ C2 (by simp);have HC0:=HC.out.trans C2;rw[←hwo]at HB0 HC0 ⊢;clear hwo C2 H0 HC HT hl w3;go_loopw [1,13] (fun uv iv wr=>∃(u i:Nat) (a:Int) (L:List Value) (ds:List UInt8),uv=.int .u64 a∧iv=.int .i64 i∧aw wr w.heap.size 286 L∧L.length=65∧ai [] w wr∧Hid (a=(u:Int)∧u < 65536∧i+ds.length=65∧L.drop i=Uk ds∧aq 16 n=aq 16 u++ds)) (fun uv _ _=>(RowKit.intOf uv).toNat)
 case atStart=>exact⟨n,65,n,_,[],rfl,rfl,HB0,rfl,HC0,rfl,hn,rfl,rfl,by simp⟩
 case round=>
  obtain⟨u,i,a,L,ds,rfl,rfl,hB,hL,hC,hh⟩:=hrel;obtain⟨ha,hu,hi,hD,hd⟩:=hh.out;clear hh;have hlen:=fk hn;rw[hd,X5]at hlen;have hpos:0 < (aq 16 u).length:=List.length_pos_iff.2 (jz u);obtain⟨k,rfl⟩:∃k,i=k+1:=⟨i - 1,by omega⟩;have hk:(((k+1:Nat):Int)) - 1=(k:Int):=by omega
  have hk65:k < 65:=by omega
  obtain⟨x,hc⟩:∃x,wr.cell? ⟨w.heap.size,k,none⟩=some x:=⟨_,hB.cell_of (i:=k) (Xy (by omega:k < L.length))⟩;have hf:=hB.frozen k;have a0:0≤a:=by omega
  have a1:a < 65536:=by omega
  by_cases h16:a < 16
  ·have hD':=zT (c:=sig u) (by omega:k < L.length) hD
   have hlD:=congrArg List.length hD';rw[XI,Ya,hL]at hlD;have HD:=hid hD';have HH:=hid (show ds.length=64 - k by omega);have HS:=hid (show aq 16 n=sig u::ds by rw[hd,bh (by omega)];rfl);have HU:=hid (show a=(u:Int)∧u < 16 by omega);have hlen2:(aq 16 n).length=65 - k:=by rw[HS.out,XU,HH.out]; omega
   have hsl:∀W,(XP 286 (.pointer (some ⟨w.heap.size,0,none⟩)) (some (.int .i64 (k:Int))) none none).run prog W=.ok (.slice (some ⟨w.heap.size,k,none⟩) (aq 16 n).length (65 - k)) W:=fun W=>by
    rw[run_sliceAt_array_l (P:=prog) W 286 ⟨w.heap.size,0,none⟩ (by kernel_rfl) .i64 (k:Int) (by omega) (by have:prog.arrayLen 286=65:=(by kernel_rfl);omega)];rw[hlen2];go_simp
    omega
   clear hlen2;clear hd hD hD' hlD hlen hpos ha hi hu;go_wp2
   obtain⟨ua,u16⟩:=HU.out;have hv:XF XM ((QO[a.toNat]'(Xz (by omega:a.toNat < 16) (by decide))).toNat:Int)=.int .u8 ((sig u).toNat:Int):=by
    have e:a.toNat=u:=by omega
    congr 1;rw[←HQ u u16 (Xz u16 (by decide))];simp only[e]
   have hB2:=hB.sh k (.int .u8 ((sig u).toNat:Int));have HW:=VD HS.out HD.out hB2;rw[show(XF XM ((({ data:=#[48,49,50,51,52,53,54,55,56,57,97,98,99,100,101,102,103,104,105,106,107,108,109,110,111,112,113,114,115,116,117,118,119,120,121,122] }:ByteArray)[a.toNat]'(Xz (by omega:a.toNat < 16) (by decide))).toNat:Int))=.int .u8 ((sig u).toNat:Int)from hv];rw[HW (65 - k)];have HCC:=hid (hC.setCell (p:=⟨w.heap.size,k,none⟩) (.inr (XE _)) (.int .u8 ((sig u).toNat:Int)));go_wp2
   go_ret2
   exact⟨rfl,HCC.out⟩
  ·obtain⟨r,hr⟩:∃r:Int,r=bits BinOp.and XG a 15:=⟨_,rfl⟩
   have hr2:r=((u%16:Nat):Int):=by rw[hr,ha];exact VS u hu
   have r0:0≤r:=by omega
   have r1:r < 16:=by omega
   have hr':bits BinOp.and XG a 15=r:=hr.symm;clear hr;have HR:=hid hr2;have HD:=hid (zT (c:=sig (u%16)) (by omega:k < L.length) hD);have HS:=hid (show aq 16 n=aq 16 (u / 16)++sig (u%16)::ds by rw[hd,dQ (by omega) (by omega)]; simp);have HU:=hid (show a=(u:Int)∧u < 65536∧k+(ds.length+1)=65 by omega);clear hd hD hlen hpos ha hi hu hr2;go_wp2
   obtain⟨ua,u16,hkd⟩:=HU.out;have hv:XF XM ((({ data:=#[48,49,50,51,52,53,54,55,56,57,97,98,99,100,101,102,103,104,105,106,107,108,109,110,111,112,113,114,115,116,117,118,119,120,121,122] }:ByteArray)[r.toNat]'(Xz (by omega:r.toNat < 16) (by decide))).toNat:Int)=.int .u8 ((sig (u%16)).toNat:Int):=by
    have e:r.toNat=u%16:=by have:=HR.out;omega
    congr 1;rw[←HQ (u%16) (by omega) (Xz (by omega:u%16 < 16) (by decide))];simp only[e];rfl
   rw[hv];refine⟨⟨u / 16,k,a / 16,_,sig (u%16)::ds,rfl,rfl,hB.sh k _,by rw[Ya]; exact hL,hC.setCell (p:=⟨w.heap.size,k,none⟩) (.inr (XE _)) _,?_⟩,?_⟩
   ·exact⟨by omega,by omega,by simp;omega,HD.out,HS.out⟩
   ·simp[RowKit.intOf];omega
open Go.RowKit Go.Lib Go.Sort
theorem Nr(n:Nat)(hn:n < 65536)(w:World)(hl:eF w):Calls prog 143 #[.int .u64 n,.int .i64 16] w fun e w'=>e=.returned (.string ⟨(aq 16 n).toArray⟩)∧ai [] w w':=by
 go_enter func143,ntmps143
 go_wp2_with (go_at_call 199;refine(yL n hn _ hl).mono ?_;rintro e w2 ⟨rfl,C2⟩)
 go_ret
 exact⟨rfl,C2⟩
theorem Cj(n:Nat)(hn:n < 100)(w:World):Calls prog 143 #[.int .u64 n,.int .i64 10] w fun e w'=>e=.returned (.string ⟨(aq 10 n).toArray⟩)∧ai [] w w':=by
 rw[pG];go_enter func143,ntmps143
 go_wp2_with (go_at_call 196;refine(Tryz.internal_strconv_small n hn _).mono ?_;rintro e w2 ⟨rfl,rfl⟩)
 go_ret
 exact⟨rfl,ai.refl _ _⟩
theorem Q5(w:World)(o:Obj)(dk:Array UInt8)(k:Nat):ai [] w ((putRow (fun(b:UInt8)=>XF .u8 (b.toNat:Int)) (w.alloc o) w.heap.size 0 dk).drewN k):=by rw[alloc_eq_grow];obtain⟨os',_,e⟩:=putRow_grow_new (fun(b:UInt8)=>XF .u8 (b.toNat:Int)) w #[o] w.heap.size 0 dk (XE _);refine ai.drewN ?_ k;rw[e];exact fV ⟨⟨w.drawn,os'⟩,rfl⟩
set_option maxHeartbeats 4000000 in
theorem N6(u:Nat)(hn:100≤u)(hu64:u < 18446744073709551616)(w:World)(hl:eF w):Calls prog 143 #[.int .u64 u,.int .i64 10] w fun e w'=>e=.returned (.string ⟨(aq 10 u).toArray⟩)∧ai [] w w':=by
 rw[pG];have hnd:Lib.nDigits u≤20:=by have:=Lib.numDigits_eq u (by omega) hu64;split at this<;>omega
 have hal:prog.arrayLen 261=24:=by kernel_rfl
 have hsl:∀W,(XP 261 (.pointer (some ⟨w.heap.size,0,none⟩)) none (some (.int .i64 (Lib.nDigits u:Int))) none).run prog W=.ok (.slice (some ⟨w.heap.size,0,none⟩) (Lib.nDigits u) 24) W:=fun W=>by rw[run_sliceAt_array_h (P:=prog) W 261 ⟨w.heap.size,0,none⟩ (by kernel_rfl) .i64 (Lib.nDigits u:Int) (by omega) (by omega)];go_simp
 have hH0:=Lib.holds_zero0 w 261 (Lib.nDigits u) (by omega);have hfmt:=Tryz.internal_strconv_formatBase10 w.heap.size 0 24 u (Array.replicate (Lib.nDigits u) 0) (w.alloc (.cells Lib.zeros24 261)) hH0 (by rw[XJ];exact Lib.lt_pow_nDigits u) hu64 (by rw[XJ];omega);rw[XJ]at hfmt;have HH:=hid hH0;clear hH0 hal;go_enter func143,ntmps143
 go_wp2_with (first
  | (go_at_call 197;refine(Tryz.internal_strconv_numDigits u (by omega) hu64 _ (Lib.tabIs_alloc hl.V3 _)).mono ?_;rintro e w2 ⟨rfl,rfl⟩))
 go_at_call 198
 refine hfmt.mono ?_;rintro e w2 ⟨rfl,k,v',dk,rfl,hF⟩;have hcv:(convert 82 9 (.slice (some ⟨w.heap.size,0,none⟩) (Lib.nDigits u) 24)).run prog ((putRow (fun(b:UInt8)=>XF .u8 (b.toNat:Int)) (w.alloc (.cells Lib.zeros24 261)) w.heap.size 0 dk).drewN k)=.ok (.string ⟨(Lib.decDigits u).toArray⟩) ((putRow (fun(b:UInt8)=>XF .u8 (b.toNat:Int)) (w.alloc (.cells Lib.zeros24 261)) w.heap.size 0 dk).drewN k):=by have h:=run_convert_bytes_back (P:=prog) ((putRow (fun(b:UInt8)=>XF .u8 (b.toNat:Int)) (w.alloc (.cells Lib.zeros24 261)) w.heap.size 0 dk).drewN k) 82 9 5 ⟨w.heap.size,0,none⟩ 24 (Lib.decDigits u) underlying82 underlying5 underlying9 (fun j hj=>by rw[Lib.row_is_numeral hF j hj,Lib.add_plain,World.cell?_drewN];exact cell?_putRow (fun(b:UInt8)=>XF .u8 (b.toNat:Int)) _ w.heap.size 0 _ dk HH.out (by rw[hF.size,XJ]) j (by rw[hF.size];rw[Lib.decDigits_length]at hj;exact hj));rw[Lib.decDigits_length]at h;exact h
 go_wp2
 go_ret
 exact⟨rfl,Q5 w _ dk k⟩
theorem VC(b n:Nat)(hb:b=10∨b=16)(hn:n < 65536)(w:World)(hl:eF w):Calls prog 73 #[.int .u64 n,.int .i64 b] w fun e w'=>e=.returned (.string ⟨(aq b n).toArray⟩)∧ai [] w w':=by
 have H:Calls prog 143 #[.int .u64 n,.int .i64 b] w fun e w'=>e=.returned (.string ⟨(aq b n).toArray⟩)∧ai [] w w':=by
  rcases hb with rfl|rfl
  ·by_cases h:n < 100
   ·exact Cj n h w
   ·exact N6 n (by omega) (by omega) w hl
  ·exact Nr n hn w hl
 go_enter func73,ntmps73
 go_wp2_with (go_at_call 143;refine H.mono ?_;rintro e w2 ⟨rfl,C2⟩)
 go_ret
 exact⟨rfl,C2⟩
open Go.RowKit Go.Lib Go.Sort
def yr(b:Nat)(t:ByteArray)(w:World)(e:Ending)(w':World):Prop:=
 ∃(v:Int) (er:Value),e=.returned (.tuple #[.int .u64 v,er])∧ai [] w w'∧0≤v∧v < 18446744073709551616∧(er=.nilIface∨er=.iface 270 (.int .i64 2)∨er=.iface 270 (.int .i64 1))∧∀n,n < 65536→t.data.toList=aq b n→v=n∧er=.nilIface
theorem uc(w:World)(t:ByteArray):ai [] w (Lib.bytesWorld w 5 t):=
 ⟨rfl,rfl,rfl,by rw[Lib.bytesWorld_size];omega,fun k hk _=>Lib.bytesWorld_at_old w 5 t k hk⟩
theorem oW{b:Nat}{t:ByteArray}{w w':World}(hC:ai [] w w')(v:Int)(er:Value)(h0:0≤v)(h1:v < 18446744073709551616)(he:er=.iface 270 (.int .i64 2)∨er=.iface 270 (.int .i64 1))(hn:∀n,n < 65536→t.data.toList=aq b n→False) :
  yr b t w (.returned (.tuple #[.int .u64 v,er])) w':=⟨v,er,rfl,hC,h0,h1,.inr he,fun n h2 h3=>(hn n h2 h3).elim⟩
theorem JL:∀d:Fin 16,10≤d.val→bits .or .u8 ((sig d.val).toNat:Int) 32=((sig d.val).toNat:Int):=by decide+kernel
set_option maxHeartbeats 32000000 in
theorem P4(t:ByteArray)(hne:t.size≠0)(hmax:t.size≤9223372036854775806)(w:World):Calls prog 163 #[.string t,.int .i64 16,.int .i64 64] w (yr 16 t w):=by
 have hemp:t.toList.isEmpty=false:=by rw[←decide_eq_emptyBytes];exact decide_eq_false (fun h=>hne (by rw[h];rfl))
 have hcv:=Lib.run_convert_string_bytes (P:=prog) w 9 82 5 t (u:=.string) underlying9 underlying82 underlying5;have hB:∀j,j < t.size→(Lib.bytesWorld w 5 t).cell? ⟨w.heap.size,j,none⟩=some (.int .u8 (t.data.toList.getD j 0).toNat):=fun j hj=>Lib.bytesWorld_cell w 5 t j hj;have HC:=hid (uc w t);obtain⟨W1,hW1⟩:∃W1,W1=Lib.bytesWorld w 5 t:=⟨_,rfl⟩;rw[←hW1]at hcv hB HC;clear hW1;obtain⟨bs,hL⟩:∃bs,bs=t.data.toList:=⟨_,rfl⟩;have hLn:bs.length=t.size:=by rw[hL,Lib.size_eq]
 rw[←hL]at hB;have HL:=hid hL;clear hL;have hmv:XG.wrap (XG.wrap 18446744073709551616 - 1)=18446744073709551615:=by rw[X3,X3];decide
 go_enter func163,ntmps163
 go_wp2
 go_loop [12,13,101] (fun vu vn vi=>∃(k:Nat) (a:Int),vu=.bool false∧vn=.int .u64 a∧vi=.int .i64 k∧k≤t.size∧0≤a∧a < 18446744073709551616∧Hid (∀n,n < 65536→bs=aq 16 n→a=(qB 16 (bs.take k):Nat)))
  (fun _ _ vi=>t.size - (RowKit.intOf vi).toNat)
 case atStart=>exact⟨0,0,rfl,rfl,rfl,by omega,by omega,by omega,fun n _ _=>rfl⟩
 case round=>
  obtain⟨k,a,rfl,rfl,rfl,hk,a0,a1,hh⟩:=hrel;by_cases hkn:k < t.size
  ·have hc:=hB k hkn
   have hget:bs.getD k 0=bs[k]'(by omega):=by simp[List.getD,Xy (show k < bs.length by omega)]
   have hgk:bs[k]?=some (bs[k]'(by omega)):=Xy (by omega);rw[hget]at hc;generalize bs[k]'(by omega)=c at hc hgk;have HG:=hid hgk;have HN:=hid (BZ (b:=16) bs k c hgk);have HT:=hid (fun n (hn:n < 65536) (h:bs=aq 16 n)=>(show qB 16 (bs.take k) < 65536 by
    have:=BY (b:=16) (by omega) bs k;have e:qB 16 bs=n:=by rw[h];exact iD (by omega) (by omega) n
    omega))
   have HM:=hid (fun n (h:bs=aq 16 n)=>(show ∃d,d < 16∧c=sig d from iQ (by omega) n c (by rw[←h];exact X0 hgk)));have hc256:(c.toNat:Int) < 256:=by have:=c.toNat_lt;omega
   have hc0:0≤(c.toNat:Int):=by omega
   obtain⟨ci,hci⟩:∃ci:Int,ci=(c.toNat:Int):=⟨_,rfl⟩;rw[←hci]at hc hc256 hc0;have HCI:=hid hci;clear hB hget hgk hci;have HV:=hh;clear hh;by_cases hdig:48≤ci∧ci≤57
   ·obtain⟨hd0,hd1⟩:=hdig
    by_cases hcut:1152921504606846976≤a
    ·go_wp2
     go_ret2
     refine oW HC.out _ _ (by omega) (by omega) (.inr rfl) fun n hn h=>?_;rw[←HL.out]at h;have h1:=HT.out n hn h;have h2:=HV.out n hn h;omega
    ·have icut:a < 1152921504606846976:=by omega
     clear hcut;go_wp2
     refine⟨⟨k+1,a*16+(ci - 48),rfl,rfl,by go_num,by omega,by omega,by omega,fun n hn h=>?_⟩,by simp[RowKit.intOf]; omega⟩;have h1:=HV.out n hn h;have h2:=HCI.out;rw[HN.out,h1];unfold mq;rw[if_pos (by omega)]
     push_cast
     omega
   ·obtain⟨l,hl⟩:∃l:Int,l=bits .or .u8 ci 32:=⟨_,rfl⟩
    have hl0:0≤l:=by rw[hl];exact bits_lo_u8 .or ci 32
    have hl1:l < 256:=by rw[hl];have:=bits_hi_u8 .or ci 32;omega
    have HLO:Hid (∀W,Calls prog 216 #[.int .u8 ci] W fun e w'=>e=.returned (.int .u8 l)∧w'=W):=hid fun W=>by rw[hl];exact Tryz.internal_strconv_lower ci W
    have HLE:=hid hl;have HLV:=hid (fun d (hd:d < 16) (h:c=sig d) (h10:10≤d)=>(show l=ci∧ci=87+d by have h1:=fb hd;have h2:=HCI.out;rw[h]at h2;rw[if_neg (by omega)]at h1;have h3:=JL ⟨d,hd⟩ h10;rw[hl,h2];exact⟨h3,by omega⟩));clear hl;by_cases h95:ci=95
    ·have hl95:l=127:=by rw[HLE.out,h95];decide
     rw[hl95,h95]at HLO;have HCN:=hid (show ∀d,d < 16→c≠sig d from fun d hd h=>by have h1:=fb hd;have h2:=HCI.out;rw[h]at h2;split at h1<;>omega);clear HLE HLV HCI hl0 hl1 hl95 l;subst h95;go_wp2_with (go_at_call 216;refine(HLO.out _).mono ?_;rintro e w2 ⟨rfl,rfl⟩)
     go_ret2
     refine oW HC.out _ _ (by omega) (by omega) (.inl rfl) fun n hn h=>?_;rw[←HL.out]at h;obtain⟨d,hd,h3⟩:=HM.out n h;exact HCN.out d hd h3
    ·have d95:decide (ci=95)=false:=decide_eq_false h95
     clear HLE;by_cases h97:97≤l∧l≤122
     ·obtain⟨l0,l1⟩:=h97
      by_cases h16:l < 103
      ·by_cases hcut:1152921504606846976≤a
       ·go_wp2_with (go_at_call 216;refine(HLO.out _).mono ?_;rintro e w2 ⟨rfl,rfl⟩)
        all_goals go_ret2
        all_goals refine oW HC.out _ _ (by omega) (by omega) (.inr rfl) fun n hn h=>?_
        all_goals rw[←HL.out]at h
        all_goals have h1:=HT.out n hn h
        all_goals have h2:=HV.out n hn h
        all_goals omega
       ·have icut:a < 1152921504606846976:=by omega
        clear hcut;have HFIN:Hid (Hid (∀n,n < 65536→bs=aq 16 n→a*16+(l - 97+10)=(qB 16 (bs.take (k+1)):Nat))):=hid fun n hn h=>by
         have h1:=HV.out n hn h;obtain⟨d,hd,h3⟩:=HM.out n h;rw[HN.out,h1,h3,nY hd];by_cases h10:d < 10
         ·have h4:=fb hd
          have h5:=HCI.out;rw[h3]at h5;rw[if_pos h10]at h4;omega
         ·obtain⟨h4,h5⟩:=HLV.out d hd h3 (by omega)
          push_cast
          omega
        go_wp2_with (go_at_call 216;refine(HLO.out _).mono ?_;rintro e w2 ⟨rfl,rfl⟩)
        all_goals exact⟨⟨k+1,a*16+(l - 97+10),rfl,rfl,by go_num,by omega,by omega,by omega,HFIN.out⟩,by simp[RowKit.intOf]; omega⟩
      ·go_wp2_with (go_at_call 216;refine(HLO.out _).mono ?_;rintro e w2 ⟨rfl,rfl⟩)
       all_goals go_ret2
       all_goals refine oW HC.out _ _ (by omega) (by omega) (.inl rfl) fun n hn h=>?_
       all_goals rw[←HL.out]at h
       all_goals obtain⟨d,hd,h3⟩:=HM.out n h
       all_goals by_cases h10:d < 10
       all_goals first | (have h4:=fb hd;have h5:=HCI.out;rw[h3]at h5;rw[if_pos h10]at h4;omega) | (obtain⟨h4,h5⟩:=HLV.out d hd h3 (by omega);omega)
     ·go_wp2_with (go_at_call 216;refine(HLO.out _).mono ?_;rintro e w2 ⟨rfl,rfl⟩)
      all_goals go_ret2
      all_goals refine oW HC.out _ _ (by omega) (by omega) (.inl rfl) fun n hn h=>?_
      all_goals rw[←HL.out]at h
      all_goals obtain⟨d,hd,h3⟩:=HM.out n h
      all_goals by_cases h10:d < 10
      all_goals first | (have h4:=fb hd;have h5:=HCI.out;rw[h3]at h5;rw[if_pos h10]at h4;omega) | (obtain⟨h4,h5⟩:=HLV.out d hd h3 (by omega);omega)
  ·have hkk:k=t.size:=by omega
   subst hkk;have HV:=hh;clear hh;go_wp2
   go_ret2
   refine⟨a,.nilIface,rfl,HC.out,a0,a1,.inl rfl,fun n hn h=>⟨?_,rfl⟩⟩;rw[←HL.out]at h;rw[HV.out n hn h,XH (by omega),h,iD (by omega) (by omega)]
open Go.RowKit Go.Lib Go.Sort
theorem sF:∀(l:List UInt8) (acc:Nat),(∀c∈l,∃d,d < 10∧c=sig d)→l.foldl (fun a c=>10*a+mq c) acc < 65536→Lib.parseUint10 acc l=.ok (l.foldl (fun a c=>10*a+mq c) acc)
 | [],acc,_,_=>rfl
 |c::l,acc,h,hn=>by obtain⟨d,hd,rfl⟩:=h c (by simp);have h1:=fb (d:=d) (by omega);rw[if_pos hd]at h1;rw[List.foldl_cons]at hn ⊢;have h2:=vt (b:=10) (by omega) l (10*acc+mq (sig d));have h3:mq (sig d)=d:=nY (by omega);unfold Lib.parseUint10;rw[if_pos (by omega),if_neg (by omega),if_neg (by omega)];rw[show acc*10+((sig d).toNat - 48)=10*acc+mq (sig d)by omega];exact sF l _ (fun c hc=>h c (by simp[hc])) hn
theorem oZ(n:Nat)(hn:n < 65536):Lib.parseUint10 0 (aq 10 n)=.ok n:=by have hv:(aq 10 n).foldl (fun a c=>10*a+mq c) 0=n:=iD (b:=10) (by omega) (by omega) n;rw[sF (aq 10 n) 0 (iQ (by omega) n) (by rw[hv];exact hn),hv]
theorem P5(t:ByteArray)(hne:t.size≠0)(hmax:t.size≤9223372036854775806)(w:World):Calls prog 163 #[.string t,.int .i64 10,.int .i64 64] w (yr 10 t w):=by
 refine(Tryz.internal_strconv_ParseUint_10_b64 t hne hmax w).mono ?_;rintro e w' ⟨rfl,rfl⟩;have hC:=uc w t;rcases h:Lib.parseUint10 0 t.data.toList with u|_|_
 ·refine⟨u,.nilIface,rfl,hC,by omega,by have:=Lib.parseUint10_lt _ 0 u (by omega) h;omega,.inl rfl,fun n hn h2=>⟨?_,rfl⟩⟩
  rw[h2,oZ n hn]at h;injection h with h;omega
 ·exact oW hC _ _ (by omega) (by omega) (.inl rfl) fun n hn h2=>by rw[h2,oZ n hn]at h;cases h
 ·exact oW hC _ _ (by omega) (by omega) (.inr rfl) fun n hn h2=>by rw[h2,oZ n hn]at h;cases h
theorem SZ(b:Nat)(t:ByteArray)(h0:t.size=0)(w:World):Calls prog 163 #[.string t,.int .i64 b,.int .i64 64] w (yr b t w):=by
 have ht:t=⟨#[]⟩:=by
  obtain⟨⟨l⟩⟩:=t;cases l with
  |nil=>rfl
  |cons _ _=>simp[ByteArray.size]at h0
 subst ht;refine(Tryz.internal_strconv_ParseUint_empty b 64 w).mono ?_;rintro e w' ⟨rfl,rfl⟩;exact oW (ai.refl _ _) _ _ (by omega) (by omega) (.inl rfl) fun n hn h2=>jz n h2.symm
theorem Wr(b:Nat)(hb:b=10∨b=16)(t:ByteArray)(hmax:t.size≤281474976710656)(w:World):Calls prog 163 #[.string t,.int .i64 b,.int .i64 64] w (yr b t w):=by
 by_cases h0:t.size=0
 ·exact SZ b t h0 w
 ·rcases hb with rfl|rfl
  ·exact P5 t h0 (by omega) w
  ·exact P4 t h0 (by omega) w
def Canon(b:Nat)(t:ByteArray)(v:Int)(er:Value):Prop:=∀n,n < 65536→t.data.toList=aq b n→v=n∧er=.nilIface
def Ud(b:Nat)(t:ByteArray)(w:World)(e:Ending)(w':World):Prop:=
 ∃(v:Int) (er:Value),e=.returned (.tuple #[.int .u64 v,er])∧ai [] w w'∧0≤v∧v < 18446744073709551616∧(er=.nilIface∨∃N,er=.iface 272 (.pointer (some ⟨N,0,none⟩)))∧∀n,n < 65536→t.data.toList=aq b n→v=n∧er=.nilIface
set_option maxHeartbeats 4000000 in
theorem Ws(b:Nat)(hb:b=10∨b=16)(t:ByteArray)(hmax:t.size≤281474976710656)(w:World)(hl:eF w):Calls prog 106 #[.string t,.int .i64 b,.int .i64 64] w (Ud b t w):=by
 have HP:=hid (Wr b hb t hmax w);have HX:=hid hmax;clear hb hmax;go_enter func106,ntmps106
 go_wp2_with (go_at_call 163;refine HP.out.mono ?_)
 rintro e w2 ⟨v,er,rfl,C2,h0,h1,he,hn⟩;have HN:Canon b t v er:=hn;have HL:=hid (hl.dO C2);have HV:=hid (And.intro h0 h1);clear hn HP h0 h1;rcases he with rfl|rfl|rfl
 ·go_wp2
  go_ret2
  exact⟨v,.nilIface,rfl,C2,HV.out.1,HV.out.2,.inl rfl,HN⟩
 ·obtain⟨ev,hev,hk⟩:=HL.out.e1
  have HE:=hid hev;have HK:=hid hk;clear hev hk;go_wp2_with (go_at_call 164;refine(Tryz.strconv_toError_syntax _ _ _ _ ev _ HX.out HE.out HK.out).mono ?_;rintro e w3 ⟨N,rfl,hN,hN2,B3⟩)
  go_ret2
  refine⟨v,_,rfl,C2.trans (ai.dZ B3),HV.out.1,HV.out.2,.inr ⟨N,rfl⟩,fun n hn h=>?_⟩;have:=(HN n hn h).2;cases this
 ·obtain⟨ev,hev,hk⟩:=HL.out.e2
  have HE:=hid hev;have HK:=hid hk;clear hev hk;go_wp2_with (go_at_call 164;refine(Tryz.strconv_toError_range _ _ _ _ ev _ HX.out HE.out HK.out).mono ?_;rintro e w3 ⟨N,rfl,hN,hN2,B3⟩)
  go_ret2
  refine⟨v,_,rfl,C2.trans (ai.dZ B3),HV.out.1,HV.out.2,.inr ⟨N,rfl⟩,fun n hn h=>?_⟩;have:=(HN n hn h).2;cases this
def OC(b most:Nat)(t:ByteArray)(w:World)(e:Ending)(w':World):Prop:=
 ∃(v:Int) (ok:Bool),e=.returned (.tuple #[.int .u64 v,.bool ok])∧ai [] w w'∧0≤v∧v < 18446744073709551616∧(ok=true→∃n:Nat,v=n∧n≤most∧t.data.toList=aq b n)∧∀n:Nat,n≤most→t.data.toList=aq b n→v=n∧ok=true
theorem Sa{b most:Nat}{t:ByteArray}{w w':World}{v:Int}(hC:ai [] w w')(h0:0≤v)(h1:v < 18446744073709551616)(hn:∀n:Nat,n≤most→t.data.toList=aq b n→False):OC b most t w (.returned (.tuple #[.int .u64 v,.bool false])) w':=
 ⟨v,false,rfl,hC,h0,h1,fun h=>(Bool.false_ne_true h).elim,fun n h2 h3=>(hn n h2 h3).elim⟩
set_option maxHeartbeats 4000000 in
theorem Hi(b most:Nat)(hb:b=10∨b=16)(hm:most < 65536)(t:ByteArray)(hmax:t.size≤281474976710656)(w:World)(hl:eF w):Calls prog 49 #[.string t,.int .i64 b,.int .u64 most] w (OC b most t w):=by
 have HP:=hid (Ws b hb t hmax w hl);have HF:=hid (fun(n:Nat) (hn:n < 65536) (W:World) (hW:eF W)=>VC b n hb hn W hW);clear hb hmax;go_enter func49,ntmps49
 go_wp2_with (go_at_call 106;refine HP.out.mono ?_)
 rintro e w2 ⟨v,er,rfl,C2,h0,h1,he,hn⟩;have HN:Canon b t v er:=hn;have HL:=hid (hl.dO C2);have HV:=hid (And.intro h0 h1);clear hn HP h1;obtain⟨n,rfl⟩:∃n:Nat,v=n:=⟨v.toNat,by omega⟩;clear h0;rcases he with rfl|⟨N,rfl⟩
 ·by_cases hle:n≤most
  ·have HF2:=hid (HF.out n (by omega) w2 HL.out)
   have HLE:=hid hle;have hle':decide ((n:Int)≤(most:Int))=true:=decide_eq_true (by omega);go_wp2_with (go_at_call 73;refine HF2.out.mono ?_;rintro e w3 ⟨rfl,C3⟩)
   go_ret2
   refine⟨n,(aq b n==t.toList),rfl,C2.trans C3,HV.out.1,HV.out.2,fun h=>⟨n,rfl,HLE.out,?_⟩,fun m hm2 h=>?_⟩
   ·rw[beq_iff_eq,ByteArray.toList_eq]at h
    exact h.symm
   ·have h3:=(HN m (by omega) h).1
    have h4:m=n:=by omega
    subst h4;refine⟨rfl,?_⟩;rw[beq_iff_eq,ByteArray.toList_eq];exact h.symm
  ·have hle':decide ((n:Int)≤(most:Int))=false:=decide_eq_false (by omega)
   have HLE:=hid hle;go_wp2
   go_ret2
   refine Sa C2 HV.out.1 HV.out.2 fun m hm2 h=>?_;have h3:=(HN m (by omega) h).1;have h4:=HLE.out;omega
 ·go_wp2
  go_ret2
  refine Sa C2 HV.out.1 HV.out.2 fun m hm2 h=>?_;have:=(HN m (by omega) h).2;cases this
set_option maxRecDepth 100000
open Go.RowKit Go.Lib Go.Sort _root_.Go.Proofs.Tryz
set_option maxRecDepth 100000
theorem Tryz.Se:(prog.info? 9).map (fun i=>(i.zero,i.size,i.bytes))=some (some (.string ⟨#[]⟩),1,16):=by kernel_rfl
def strs(xs:List (List UInt8)):List Value:=xs.map fun l=>.string ⟨l.toArray⟩
theorem tr(xs:List (List UInt8))(l:List UInt8):strs (xs++[l])=strs xs++[.string ⟨l.toArray⟩]:=by simp[strs]
theorem GD{xs:List (List UInt8)}{j:Nat}{x:ByteArray}(h:(xs.map fun l=>(⟨l.toArray⟩:ByteArray))[j]?=some x):(strs xs)[j]?=some (.string x):=by
 rw[X7]at h;unfold strs;rw[X7];cases hx:xs[j]? with
 |none=>rw[hx]at h;cases h
 |some y=>rw[hx]at h;injection h with h;rw[←h];rfl
theorem sW(xs:List (List UInt8)):(xs.map fun l=>(⟨l.toArray⟩:ByteArray)).map (·.data.toList)=xs:=by
 rw[List.map_map]
 conv=>rhs;rw[←List.map_id xs]
 rfl
theorem Ds{w0 w:World}{A:Option Go.Addr}{n c:Nat}{xs:List (List UInt8)}(h:Acc w0 w 9 1 (.slice A n c) n (strs xs))(sep:UInt8)(hN:n≤140737488355328)(hlen:(ay sep xs).length≤140737488355328) :
  Calls prog 87 #[.slice A n c,.string ⟨#[sep]⟩] w (Rn w (.string ⟨(ay sep xs).toArray⟩)):=by
 have hl:xs.length=n:=by have:=h.own.len;simpa[strs]using this
 by_cases h0:n=0
 ·subst h0
  have:xs=[]:=List.eq_nil_of_length_eq_zero hl;subst this;exact(Tryz.strings_Join_none A c ⟨#[sep]⟩ w).mono fun e w' ⟨h1,h2⟩=>⟨h1,by rw[h2];exact ai.refl _ _⟩
 ·obtain⟨g,o,c',hv,hnc,_,hg⟩:=h.own.some_ (by omega)
  injection hv with hA _ hc;subst hA hc;have hj:=Tryz.strings_Join g o c (xs.map fun l=>(⟨l.toArray⟩:ByteArray)) ⟨#[sep]⟩ w (fun j x hx=>by have:=h.own.lj j _ (GD hx);rwa [Lib.add_plain]at this) hg (by simpa[hl]using hN) (by simpa[hl]using hnc) (by rw[sW,show(⟨#[sep]⟩:ByteArray).data.toList=[sep]from rfl,pw];exact hlen);rw[sW,show(⟨#[sep]⟩:ByteArray).data.toList=[sep]from rfl,pw,XN,hl]at hj;exact hj.mono fun e w' ⟨h1,h2⟩=>⟨h1,ai.dZ h2⟩
theorem kB(c:UInt8)(M:Nat):∀xs:List (List UInt8),(∀x∈xs,x.length≤M)→(ay c xs).length≤xs.length*(M+1)
 | [],_=>by simp[ay]
 | [x],h=>by have:=h x (by simp);simp[ay];omega
 |x::y::r,h=>by have h1:=h x (by simp);have h2:=kB c M (y::r) (fun z hz=>h z (by simp at hz ⊢;exact .inr hz));rw[ay,X5,XU,XU,Nat.succ_mul];omega
set_option maxHeartbeats 4000000 in
theorem Dq(l:List Nat)(hl:∀u∈l,u < 65536)(g o c:Nat)(hn:l.length≤8)(w:World)(HL:eF w)(hA:∀j u,l[j]?=some u→w.cell? ⟨g,o+j,none⟩=some (.int .u16 (u:Nat)))(hg:g < w.heap.size) :
  Calls prog 112 #[.slice (some ⟨g,o,none⟩) l.length c] w fun e w'=>e=.returned (.string ⟨(aU l).toArray⟩)∧ai [] w w':=by
 obtain⟨i0,hi,hz0,hz1,hz2⟩:=info_parts Tryz.Se;have HLL:=hid HL;clear HL;have HU:=hid hl;clear hl;have HA:=hid hA;clear hA;have HIN:=hid (Sx.t2 hi hz0 (And.intro hz1 hz2));clear hi hz0 hz1 hz2;obtain⟨n,hln⟩:∃n,n=l.length:=⟨_,rfl⟩;rw[←hln]at hn ⊢;have HLN:=hid hln;clear hln;go_enter func112,ntmps112
 go_wp2
 go_loopw [3,8] (fun sv iv wr=>∃(k:Nat) (Av:Option Go.Addr) (cv:Nat),k≤n∧iv=.int .i64 k∧sv=.slice Av k cv∧Acc w wr 9 1 (.slice Av k cv) k (strs ((l.take k).map (aq 16)))) (fun _ iv _=>n - (RowKit.intOf iv).toNat)
 case atStart=>exact⟨0,none,0,X4 _,rfl,rfl,Acc.nil w 9 1 (ai.refl _ _)⟩
 case round=>
  obtain⟨k,Av,cv,hk,rfl,rfl,hAc⟩:=hrel;by_cases hlt:k < n
  ·have hkl:k < l.length:=by rw[←HLN.out];exact hlt
   obtain⟨u,hu⟩:∃u,l[k]?=some u:=⟨_,Xy hkl⟩;have hu16:=HU.out u (X0 hu);have cu:=(hAc.aJ.cell (p:=⟨g,o+k,none⟩) hg (by simp)).trans (HA.out k u hu);have HF:=hid (VC 16 u (.inr rfl) hu16 wr (HLL.out.dO hAc.aJ));have HS:=hid (show strs ((l.take (k+1)).map (aq 16))=strs ((l.take k).map (aq 16))++[.string ⟨(aq 16 u).toArray⟩] by rw[List.take_add_one,hu];simp[strs]);have HAc:=hid hAc;clear hu hAc;have hu0:(0:Int)≤(u:Int):=by omega
   go_wp2_with (first | (go_at_call 73;refine HF.out.mono ?_;rintro e w2 ⟨rfl,C2⟩) | ((with_reducible refine gn ?_);(refine ew _ rfl (.tmp 12) (.tmp 16) 70 rfl 9 i0 _ 1 16 underlying70 HIN.out.1 HIN.out.2.1 HIN.out.2.2.1 HIN.out.2.2.2 rfl (by omega) (.slice Av k cv) k (strs ((l.take k).map (aq 16))) rfl ((HAc.out.later C2).alloc _).own ⟨w2.heap.size,0,none⟩ 1 1 [.string ⟨(aq 16 u).toArray⟩] rfl rfl (by simpa using (aw.new w2 9 #[.string ⟨(aq 16 u).toArray⟩]).Eo) (by simp[XL]) (by unfold maxLen;omega) (by omega) ?_);intro A' c' w3 hO3 hC3 hb3))
   go_roundw
   case measure=>simp[RowKit.intOf];omega
   case rel=>refine⟨k+1,A',c',by omega,by go_num,rfl,?_⟩;rw[HS.out];exact Acc.append ((HAc.out.later C2).alloc _) hO3 hC3 hb3
  ·have hkn:k=n:=by omega
   subst hkn;have HT:=hid (show l.take k=l from XH (by rw[←HLN.out];exact XE _));rw[HT.out]at hAc;have HJ:=hid (Ds hAc 58 (by omega) (by have:=kB 58 4 (l.map (aq 16)) (fun x hx=>by rw[XW]at hx;obtain⟨u,hu,rfl⟩:=hx;exact fk (HU.out u hu));rw[XN,←HLN.out]at this;omega));have HCC:=hid hAc.aJ;clear hAc;go_wp2_with (go_at_call 87;refine HJ.out.mono ?_;rintro e w4 ⟨rfl,C4⟩)
   go_ret
   exact⟨rfl,HCC.out.trans C4⟩
open Go.RowKit Go.Lib Go.Sort
theorem Gx(w:World):Calls prog 160 #[] w fun e w'=>e=.returned (.int .i64 2)∧w'=w:=by
 go_enter func160,ntmps160
 go_wp2
 go_loopw [1,2] (fun nv tv wr=>wr=w∧((nv=.int .i64 0∧tv=.int .u64 65535)∨(nv=.int .i64 1∧tv=.int .u64 255)∨(nv=.int .i64 2∧tv=.int .u64 0))) (fun _ tv _=>(RowKit.intOf tv).toNat)
 case atStart=>exact⟨rfl,.inl ⟨rfl,rfl⟩⟩
 case round=>
  obtain⟨rfl,⟨rfl,rfl⟩ | ⟨rfl,rfl⟩ | ⟨rfl,rfl⟩⟩:=hrel
  ·go_wp2
   go_roundw
   case measure=>decide
   case rel=>exact⟨by first|trivial|rfl,.inr (.inl ⟨rfl,rfl⟩)⟩
  ·go_wp2
   go_roundw
   case measure=>decide
   case rel=>exact⟨by first|trivial|rfl,.inr (.inr ⟨rfl,rfl⟩)⟩
  ·go_wp2
   go_ret
   exact⟨rfl,rfl⟩
theorem AT(v x:Nat)(hv:v < 65536)(hx:x < 256):bits .or .u64 ((v:Int)*256) (x:Int)=((v*256+x:Nat):Int):=by
 have h:=u64_or_nat (v*256) x (by omega) (by omega);rw[nat_join 8 (v*256) x (by omega) (by omega)]at h;have e:((v*256:Nat):Int)=(v:Int)*256:=by omega
 rwa [e]at h
set_option maxHeartbeats 4000000 in
theorem SC(g o c:Nat)(i:Nat)(hi:i < 8)(n:Nat)(w:World)(hb:∀j,j < 16→w.cell? ⟨g,o+j,none⟩=some (.int .u8 (ah n j:Nat)))(hc:16≤c) :
  Calls prog 165 #[.slice (some ⟨g,o,none⟩) 16 c,.int .i64 (2*i:Nat)] w fun e w'=>e=.returned (.tuple #[.int .u16 (eE n i:Nat),.int .i64 0])∧w'=w:=by
 have h1:=hb (2*i) (by omega);have h2:=hb (2*i+1) (by omega);have l1:=ba n (2*i);have l2:=ba n (2*i+1);obtain⟨x,hx⟩:∃x,x=ah n (2*i):=⟨_,rfl⟩;obtain⟨y,hy⟩:∃y,y=ah n (2*i+1):=⟨_,rfl⟩;have HG:=hid (show eE n i=x*256+y by rw[hx,hy];rfl);rw[←hx]at h1 l1;rw[←hy]at h2 l2;rw[HG.out];obtain⟨k,hk⟩:∃k,k=2*i:=⟨_,rfl⟩;rw[←hk]at h1 h2 ⊢;have hk16:k+2≤16:=by omega
 clear hx hy hk hb hi HG i n;rw[show o+(k+1)=o+k+1 by omega]at h2;have o1:bits .or .u64 0 (x:Int)=(x:Int):=by have:=AT 0 x (by omega) l1;simpa using this
 have o0:=AT 0 x (by omega) l1;have o2:=AT x y (by omega) l2;go_enter func165,ntmps165
 go_wp2_with (go_at_call 160;refine(Gx _).mono ?_;rintro e w2 ⟨rfl,rfl⟩)
 go_loopw [7,28] (fun vv jv wr=>wr=w2∧((vv=.int .u64 0∧jv=.int .i64 0)∨(vv=.int .u64 x∧jv=.int .i64 1)∨(vv=.int .u64 ((x*256+y:Nat):Int)∧jv=.int .i64 2))) (fun _ jv _=>2 - (RowKit.intOf jv).toNat)
 case atStart=>exact⟨rfl,.inl ⟨rfl,rfl⟩⟩
 case round=>
  obtain⟨rfl,⟨rfl,rfl⟩ | ⟨rfl,rfl⟩ | ⟨rfl,rfl⟩⟩:=hrel
  ·go_wp2
   go_roundw
   case measure=>decide
   case rel=>exact⟨by first|trivial|rfl,.inr (.inl ⟨rfl,rfl⟩)⟩
  ·go_wp2
   go_roundw
   case measure=>decide
   case rel=>exact⟨by first|trivial|rfl,.inr (.inr ⟨rfl,rfl⟩)⟩
  ·have hs:x*256+y < 65536:=by omega
   go_wp2
   go_ret2
   exact⟨rfl,rfl⟩
def z87:Array Value:=#[.int .u16 0,.int .u16 0,.int .u16 0,.int .u16 0,.int .u16 0,.int .u16 0,.int .u16 0,.int .u16 0]
def g16(f:Nat→Nat):List Value:=(XC 8).map fun j=>.int .u16 (f j:Nat)
theorem gg(f:Nat→Nat):(g16 f).length=8:=by simp[g16]
theorem xI(f:Nat→Nat)(j:Nat)(hj:j < 8):(g16 f)[j]?=some (.int .u16 (f j:Nat)):=by simp[g16,hj]
theorem Np(f:Nat→Nat):(g16 f).toArray.all (·.oneCell')=true:=by simp[g16,XL]
theorem EW:(prog.info? 172).map (·.size)=some 8:=by kernel_rfl
def A0(n i j:Nat):Nat:=if j < i then eE n j else 0
theorem QY{f g:Nat→Nat}(h:∀j,j < 8→f j=g j):g16 f=g16 g:=X2 fun j hj=>by rw[h j (by simpa using hj)]
theorem QX(n i:Nat)(hi:i < 8):(g16 (A0 n i)).set i (.int .u16 (eE n i:Nat))=g16 (A0 n (i+1)):=by
 apply X8;intro j;rw[X6,gg];by_cases hj:j < 8
 ·rw[xI _ j hj,xI _ j hj]
  unfold A0;by_cases h:i=j
  ·subst h;rw[if_pos rfl,if_pos hi,if_pos (by omega)]
  ·rw[if_neg h]
   by_cases h2:j < i
   ·rw[if_pos h2,if_pos (by omega)]
   ·rw[if_neg h2,if_neg (by omega)]
 ·rw[XB (by rw[gg];omega),XB (by rw[gg];omega)]
  split<;>simp_all
theorem Ts{ops:Array Oper}{rest:List Oper}{o:Oper}{a:Act}{w:World}{Q:Exit→Act→World→Prop}(hgd:o.guard=none)(x:Operand)(ho:o.op=.load 172 x)
  (g:Nat) (hx:a.eval x=.pointer (some ⟨g,0,none⟩)) (t:TypeId) (f:Nat→Nat) (hb:aw w g t (g16 f))
  (h:wpList prog ops Q rest (a.put o.dst (.agg (g16 f).toArray)) w):wpList prog ops Q (o::rest) a w:=
 wpList_load_row hgd 172 x ho g hx t _ (0,0) _ hb underlying172 rfl (EW.trans (by simp[gg])) h
theorem SD{ops:Array Oper}{rest:List Oper}{o:Oper}{a:Act}{w:World}{Q:Exit→Act→World→Prop}(hgd:o.guard=none)(x y:Operand)(ho:o.op=.store 172 x y)
  (g:Nat) (f:Nat→Nat) (hx:a.eval x=.pointer (some ⟨g,0,none⟩)) (hy:a.eval y=.agg (g16 f).toArray) (t:TypeId) (old:List Value) (hb:aw w g t old) (hl:old.length=8)
  (h:wpList prog ops Q rest (a.put o.dst undef) (w.setRow g (g16 f).toArray)):wpList prog ops Q (o::rest) a w:=
 wpList_store_row hgd 172 x y ho g _ hx hy t old.toArray hb (EW.trans (by simp[gg])) (by simp[gg,hl]) (Np f) h
theorem Wl{fn:Func}{p:Tmp}(h:fn.results=#[.cell p 172])(tmps:Array Value)(w:World)(g:Nat)(f:Nat→Nat)(t:TypeId)
  (hp:tmps.getD p undef=.pointer (some ⟨g,0,none⟩)) (hb:aw w g t (g16 f)):(results fn tmps).run prog w=.ok (.agg (g16 f).toArray) w:=
 results_cell_row h tmps w g t _ (0,0) _ hp hb underlying172 rfl (EW.trans (by simp[gg]))
theorem aw.N0{w:World}{g:Nat}{t:TypeId}{v:Bool}{n:Nat}(hb:aw w g t (cD v n)):∀j,j < 16→w.cell? ⟨g,1+j,none⟩=some (.int .u8 (ah n j:Nat)):=fun j hj=>hb.cell_of (cM v _ j hj)
set_option maxHeartbeats 4000000 in
theorem Nj(v:Bool)(n:Nat)(w:World):Calls prog 110 #[.agg (cD v n).toArray] w fun e w'=>e=.returned (.agg (g16 (eE n)).toArray)∧ai [] w w':=by
 have HA:=hid (show aw (((w.alloc (.cells (cD v n).toArray 24)).alloc (.cells z87 172)).alloc (.cells z87 172)) w.heap.size 24 (cD v n)from((aw.new w 24 (cD v n).toArray).alloc _).alloc _);have HR:=hid (show aw (((w.alloc (.cells (cD v n).toArray 24)).alloc (.cells z87 172)).alloc (.cells z87 172)) (w.heap.size+1) 172 (g16 (A0 n 0))from(aw.ga (w.alloc (.cells (cD v n).toArray 24)) 172 z87 (by simp)).alloc _);have HO:=hid (show aw (((w.alloc (.cells (cD v n).toArray 24)).alloc (.cells z87 172)).alloc (.cells z87 172)) (w.heap.size+2) 172 (g16 (A0 n 0))from aw.ga _ 172 z87 (by simp));have HC:=hid ((((ai.refl [] w).alloc (.cells (cD v n).toArray 24)).alloc (.cells z87 172)).alloc (.cells z87 172));go_enter func110,ntmps110
 go_wp2
 go_loopw [5] (fun iv wr=>∃i:Nat,i≤8∧iv=.int .i64 i∧aw wr w.heap.size 24 (cD v n)∧aw wr (w.heap.size+1) 172 (g16 (A0 n 0))∧aw wr (w.heap.size+2) 172 (g16 (A0 n i))∧ai [] w wr) (fun iv _=>8 - (RowKit.intOf iv).toNat)
 case atStart=>exact⟨0,by omega,rfl,HA.out,HR.out,HO.out,HC.out⟩
 case round=>
  obtain⟨i,hi,rfl,hA,hR,hO,hC⟩:=hrel;by_cases hlt:i < 8
  ·have co:=hO.cell_of (xI _ i hlt)
   have fo:=hO.frozen i;have HT:=hid (SC w.heap.size 1 16 i hlt n wr hA.N0 (by omega));obtain⟨k,hk⟩:∃k:Nat,k=2*i:=⟨_,rfl⟩;rw[←hk]at HT;have e2:(2:Int)*(i:Int)=(k:Int):=by omega
   have k14:k≤14:=by omega
   clear hk;have HS:=hid (QX n i hlt);have HA:=hid hA;have HR:=hid hR;have HO:=hid hO;have HC:=hid hC;clear hA hR hO hC;go_wp2_with (go_at_call 165;refine HT.out.mono ?_;rintro e w2 ⟨rfl,rfl⟩)
   go_roundw
   case measure=>simp[RowKit.intOf];omega
   case rel=>refine⟨i+1,by omega,by go_num,HA.out.OU (by show w.heap.size≠w.heap.size+1+1;omega) _,HR.out.OU (by show w.heap.size+1≠w.heap.size+1+1;omega) _,?_,HC.out.Pp (by omega) _ _⟩;rw[←HS.out];exact HO.out.sh i _
  ·have hi8:i=8:=by omega
   subst hi8;go_wp2_with (first | (refine Ts rfl _ rfl (w.heap.size+2) rfl 172 _ hO ?_) | (refine SD rfl _ _ rfl (w.heap.size+1) _ rfl rfl 172 _ hR (gg _) ?_))
   refine bodyPost_ret (Wl rfl _ _ (w.heap.size+1) (eE n) 172 rfl ?_) rfl ⟨rfl,hC.setRow (.inr (by omega)) _⟩;have hs:=hR.row (g16 (A0 n 8));rwa [QY (f:=A0 n 8) (g:=eE n) (fun j hj=>if_pos hj)]at hs
theorem Us(n k:Nat)(hk:k < 8):(zs (aP n))[k]?=some (eE n k==0):=by
 match k,hk with
 | 0,_=>rfl
 | 1,_=>rfl
 | 2,_=>rfl
 | 3,_=>rfl
 | 4,_=>rfl
 | 5,_=>rfl
 | 6,_=>rfl
 | 7,_=>rfl
theorem Sv(n:Nat):(zs (aP n)).length=8:=rfl
theorem IN(z:List Bool)(k:Nat)(h:z[k]?=some true):iU (z.drop k)=iU (z.drop (k+1))+1:=by obtain⟨h1,h2⟩:=XA.1 h;rw[XD h1,h2];rfl
theorem IM(z:List Bool)(k:Nat)(h:z[k]?≠some true):iU (z.drop k)=0:=by
 by_cases h1:k < z.length
 ·rw[XD h1]
  rw[Xy h1]at h;cases h2:z[k]with
  |true=>rw[h2]at h;exact absurd rfl h
  |false=>rfl
 ·rw[List.drop_eq_nil_of_le (by omega)];rfl
set_option maxHeartbeats 4000000 in
theorem VB(n:Nat)(w:World):Calls prog 111 #[.agg (g16 (eE n)).toArray] w fun e w'=>e=.returned (.tuple #[.int .i64 ((fK (zs (aP n))).1:Nat),.int .i64 ((fK (zs (aP n))).2:Nat)])∧ai [] w w':=by
 have HA:=hid (aw.new w 172 (g16 (eE n)).toArray);have HC:=hid ((ai.refl [] w).alloc (.cells (g16 (eE n)).toArray 172));obtain⟨Z,hZ⟩:∃Z,Z=zs (aP n):=⟨_,rfl⟩;rw[←hZ];have HZ:=hid (fun k (hk:k < 8)=>(show Z[k]?=some (eE n k==0)by rw[hZ];exact Us n k hk));have HZL:=hid (show Z.length=8 by rw[hZ];exact Sv n);clear hZ;obtain⟨G,hG⟩:∃G,G=fK Z:=⟨_,rfl⟩;rw[←hG];have HG:=hid hG;clear hG;go_enter func111,ntmps111
 go_wp2
 obtain⟨wo,hwo⟩:∃wo,wo=w.alloc (.cells (g16 (eE n)).toArray 172):=⟨_,rfl⟩;have hA:=HA.out;have hC:=HC.out;rw[←hwo]at hA hC ⊢;clear hwo HA HC;go_loopw [2,3,4] (fun fv tv iv wr=>wr=wo∧∃(u f t i:Nat),fv=.int .i64 f∧tv=.int .i64 t∧iv=.int .i64 i∧f≤t∧t≤8∧i≤8∧u+i≥8∧Hid (G=JZ Z u i f t)) (fun _ _ iv _=>9 - (RowKit.intOf iv).toNat)
 case atStart=>exact⟨rfl,8,0,0,0,rfl,rfl,rfl,by omega,by omega,by omega,by omega,HG.out⟩
 case round=>
  obtain⟨rfl,u,f,t,i,rfl,rfl,rfl,hft,ht,hi,hu,hh⟩:=hrel;by_cases hlt:i < 8
  ·obtain⟨u,rfl⟩:∃u',u=u'+1:=⟨u - 1,by omega⟩
   have hr:=hid (show i+iU (Z.drop i)≤8 by have:=AA (Z.drop i);rw[XI,HZL.out]at this;omega);obtain⟨e,he⟩:∃e,e=i+iU (Z.drop i):=⟨_,rfl⟩;have hh2:=hh.out;rw[JZ,if_pos hlt,←he]at hh2;have he8:e≤8:=by rw[he];exact hr.out
   have hie:i≤e:=by omega
   have HE:=hid he;have HH:=hid hh2;clear he hh hh2 hr HG;have d8:decide ((i:Int) < 8)=true:=decide_eq_true (by omega);go_wp2
   obtain⟨wq,hwq⟩:∃wq,wq=wr:=⟨_,rfl⟩;rw[←hwq]at hA hC ⊢;have HWQ:=hid hwq;clear hwq;go_loopw [5] (fun kv wx=>wx=wq∧∃k:Nat,kv=.int .i64 k∧i≤k∧k≤e∧Hid (k+iU (Z.drop k)=e)) (fun kv _=>9 - (RowKit.intOf kv).toNat)
   case atStart=>exact⟨rfl,i,rfl,by omega,hie,HE.out.symm⟩
   case round=>
    obtain⟨rfl,k,rfl,hik,hke,hk⟩:=hrel;by_cases hk8:k < 8
    ·have ck:=hA.cell_of (xI (eE n) k hk8)
     have zk:=HZ.out k hk8;by_cases h0:eE n k=0
     ·have c0:(eE n k:Int)=0:=by omega
      have hst:=IN Z k (by rw[zk,h0];rfl);have HS:=hid (show k+1+iU (Z.drop (k+1))=e by have:=hk.out;omega);have HLE:=hid (show k+1≤e by have:=HS.out;omega);clear hst zk hk;go_wp2
      go_roundw
      case measure=>simp[RowKit.intOf];omega
      case rel=>exact⟨by first|trivial|rfl,k+1,by go_num,by omega,HLE.out,HS.out⟩
     ·have c0:(eE n k:Int)≠0:=by omega
      have hst:=IM Z k (by rw[zk];simpa using h0);have hek:e=k:=by have:=hk.out;omega
      subst hek;clear hst zk hk;go_wp2
      all_goals refine⟨⟨HWQ.out,u,?_⟩,by simp[RowKit.intOf];omega⟩
      ·refine⟨i,e,max i (e - 1)+1,rfl,rfl,by congr 1; omega,hie,he8,by omega,by omega,?_⟩
       exact hid (HH.out.trans (if_pos (by omega)))
      ·refine⟨f,t,max i (e - 1)+1,rfl,rfl,by congr 1; omega,hft,ht,by omega,by omega,?_⟩
       exact hid (HH.out.trans (if_neg (by omega)))
    ·have hek:e=k:=by omega
     subst hek;clear hk;go_wp2
     all_goals refine⟨⟨HWQ.out,u,?_⟩,by simp[RowKit.intOf];omega⟩
     ·refine⟨i,e,max i (e - 1)+1,rfl,rfl,by congr 1; omega,hie,he8,by omega,by omega,?_⟩
      exact hid (HH.out.trans (if_pos (by omega)))
     ·refine⟨f,t,max i (e - 1)+1,rfl,rfl,by congr 1; omega,hft,ht,by omega,by omega,?_⟩
      exact hid (HH.out.trans (if_neg (by omega)))
  ·have hi8:i=8:=by omega
   subst hi8;have hh2:=hid (show G=(f,t)by
    rw[hh.out];cases u with
    |zero=>rfl
    |succ u=>rw[JZ,if_neg (by omega)])
   go_wp2
   rw[hh2.out];go_ret2
   exact⟨rfl,hC⟩
open Go.RowKit Go.Lib Go.Sort
theorem Dp(l:List Nat)(hl:∀u∈l,u < 65536)(g o c:Nat)(hn:l.length≤8)(w:World)(HL:eF w)(hA:∀j u,l[j]?=some u→w.cell? ⟨g,o+j,none⟩=some (.int .u16 (u:Nat)))(hg:g < w.heap.size)(d:Nat)(os:Array Obj) :
  Calls prog 112 #[.slice (some ⟨g,o,none⟩) l.length c] (grow (redrawn w d) os) fun e w''=>e=.returned (.string ⟨(aU l).toArray⟩)∧∃p:Regrown,w''=grow (redrawn w p.d) p.os:=by
 have hc:ai [] w (grow (redrawn w d) os):=fV ⟨⟨d,os⟩,rfl⟩;exact Calls.regrown_of ((Dq l hl g o c hn _ (HL.dO hc) (fun j u hu=>(hc.cell (p:=⟨g,o+j,none⟩) hg (by simp)).trans (hA j u hu)) (Xz hg hc.size)).mono fun _ _ ⟨e1,e2⟩=>⟨e1,e2.below (by simp) (XE _)⟩)
theorem M6(n:Nat)(hn:n < 65536)(w:World)(hl:eF w):Calls prog 71 #[.int .i64 n] w (Rn w (.string ⟨(aq 10 n).toArray⟩)):=by refine(Tryz.strconv_Itoa n (by omega) (by omega) w hl.V3).mono ?_;rintro e w' ⟨rfl,k,os,rfl⟩;refine⟨by rw[Lib.itoa_nonneg,pG],((ai.refl [] w).drewN k).trans (fV ⟨⟨(w.drewN k).drawn,os⟩,rfl⟩)⟩
def gk(v:Bool)(n:Nat):List UInt8:=if jt v n then eL v n else []
set_option maxHeartbeats 4000000 in
theorem Ep(v:Bool)(n:Nat)(hn:n < 2^128)(h:jt v n=false)(w:World):Calls prog 53 #[.agg (cD v n).toArray] w fun e w'=>e=.returned (.tuple #[.string ⟨#[]⟩,.int .i64 150])∧ai [] w w':=by
 have HA:=hid (aw.new w 24 (cD v n).toArray);have HC:=hid ((ai.refl [] w).alloc (.cells (cD v n).toArray 24));have HK:=hid (pK v n hn);rw[show dM v n=150 by unfold dM;rw[h];rfl]at HK;clear hn;go_enter func53,ntmps53
 go_wp2_with (first | (go_at_call 109;refine(HK.out _).mono ?_;rintro e w2 ⟨rfl,C2⟩) | (refine jH rfl _ rfl w.heap.size rfl 24 v n HA.out ?_))
 go_ret2
 exact⟨rfl,HC.out.trans C2⟩
theorem SR(n k:Nat):strs ((XC (k+1)).map fun i=>aq 10 (ah n i))=strs ((XC k).map fun i=>aq 10 (ah n i))++[.string ⟨(aq 10 (ah n k)).toArray⟩]:=by rw[List.range_succ,List.map_append];simp[strs]
theorem B8(n:Nat):fq n=ay 46 ((XC 4).map fun i=>aq 10 (ah n i)):=rfl
set_option maxHeartbeats 4000000 in
theorem Gn(n:Nat)(hn:n < 2^128)(h:jt false n=true)(w:World)(HL:eF w):Calls prog 53 #[.agg (cD false n).toArray] w fun e w'=>e=.returned (.tuple #[.string ⟨(fq n).toArray⟩,.int .i64 0])∧ai [] w w':=by
 obtain⟨i0,hi,hz0,hz1,hz2⟩:=info_parts Tryz.Se;have HIN:=hid (Sx.t2 hi hz0 (And.intro hz1 hz2));clear hi hz0 hz1 hz2;have HA:=hid (aw.new w 24 (cD false n).toArray);have HC:=hid ((ai.refl [] w).alloc (.cells (cD false n).toArray 24));have HK:=hid (pK false n hn);rw[show dM false n=0 by unfold dM;rw[h];rfl]at HK;have HLL:=hid HL;clear hn HL;go_enter func53,ntmps53
 go_wp2_with (first | (go_at_call 109;refine(HK.out _).mono ?_;rintro e w2 ⟨rfl,C2⟩;have cb:=(HA.out.aJ C2 (by simp)).cell_of (ud false (ah n))) | (refine jH rfl _ rfl w.heap.size rfl 24 false n HA.out ?_))
 obtain⟨w1,hw1⟩:∃w1,w1=w2:=⟨_,rfl⟩;have hA:=HA.out.aJ C2 (by simp);have hC:=HC.out.trans C2;rw[←hw1]at hA hC ⊢;clear hw1 HA HC C2 cb;have HL1:=hid (HLL.out.dO hC);go_loopw [8,41] (fun sv iv wr=>∃(k:Nat) (Av:Option Go.Addr) (cv:Nat),k≤4∧iv=.int .i64 k∧sv=.slice Av k cv∧Acc w1 wr 9 1 (.slice Av k cv) k (strs ((XC k).map fun i=>aq 10 (ah n i)))) (fun _ iv _=>4 - (RowKit.intOf iv).toNat)
 case atStart=>exact⟨0,none,0,X4 _,rfl,rfl,Acc.nil w1 9 1 (ai.refl _ _)⟩
 case round=>
  obtain⟨k,Av,cv,hk,rfl,rfl,hAc⟩:=hrel;by_cases hlt:k < 4
  ·have cu:=(hAc.aJ.cell (p:=⟨w.heap.size,1+k,none⟩) hA.lt (by simp)).trans (hA.N0 k (by omega))
   have hb:=ba n k;have HS:=hid (SR n k);obtain⟨u,hu⟩:∃u,u=ah n k:=⟨_,rfl⟩;rw[←hu]at cu hb HS;have HF:=hid (M6 u (by omega) wr (HL1.out.dO hAc.aJ));have HAc:=hid hAc;clear hu hAc;have hu0:(0:Int)≤(u:Int):=by omega
   go_wp2_with (first | (go_at_call 71;refine HF.out.mono ?_;rintro e w2 ⟨rfl,C2⟩) | ((with_reducible refine gn ?_);(refine ew _ rfl (.tmp 45) (.tmp 49) 70 rfl 9 i0 _ 1 16 underlying70 HIN.out.1 HIN.out.2.1 HIN.out.2.2.1 HIN.out.2.2.2 rfl (by omega) (.slice Av k cv) k (strs ((XC k).map fun i=>aq 10 (ah n i))) rfl ((HAc.out.later C2).alloc _).own ⟨w2.heap.size,0,none⟩ 1 1 [.string ⟨(aq 10 u).toArray⟩] rfl rfl (by simpa using (aw.new w2 9 #[.string ⟨(aq 10 u).toArray⟩]).Eo) (by simp[XL]) (by unfold maxLen;omega) (by omega) ?_);intro A' c' w3 hO3 hC3 hb3))
   go_roundw
   case measure=>simp[RowKit.intOf];omega
   case rel=>refine⟨k+1,A',c',by omega,by go_num,rfl,?_⟩;rw[HS.out];exact Acc.append ((HAc.out.later C2).alloc _) hO3 hC3 hb3
  ·have hkn:k=4:=by omega
   subst hkn;have HJ:=hid (Ds hAc 46 (by omega) (by have:=kB 46 3 ((XC 4).map fun i=>aq 10 (ah n i)) (fun x hx=>by rw[XW]at hx;obtain⟨u,hu,rfl⟩:=hx;exact gh (by have:=ba n u;omega));rw[XN,List.length_range]at this;omega));rw[←B8]at HJ;have HCC:=hid (hC.trans hAc.aJ);clear hAc;go_wp2_with (go_at_call 87;refine HJ.out.mono ?_;rintro e w4 ⟨rfl,C4⟩)
   go_ret2
   exact⟨rfl,HCC.out.trans C4⟩
open Go.RowKit Go.Lib Go.Sort
theorem pC(n j:Nat)(hj:j < 8):(aP n)[j]?=some (eE n j):=by
 match j,hj with
 | 0,_=>rfl
 | 1,_=>rfl
 | 2,_=>rfl
 | 3,_=>rfl
 | 4,_=>rfl
 | 5,_=>rfl
 | 6,_=>rfl
 | 7,_=>rfl
theorem eQ(n:Nat):(aP n).length=8:=rfl
theorem Bl{n j u:Nat}(h:(aP n)[j]?=some u):j < 8∧u=eE n j:=by
 have hj:j < 8:=by have:=(XA.1 h).1;rwa [eQ]at this
 rw[pC n j hj]at h;exact⟨hj,(Option.some.inj h).symm⟩
theorem gT{n u:Nat}(h:u∈aP n):u < 65536:=by obtain⟨j,hj⟩:=List.getElem?_of_mem h;rw[(Bl hj).2];exact xF n j
theorem aw.eE{w:World}{g:Nat}{t:TypeId}{n:Nat}(hb:aw w g t (g16 (eE n))){j u:Nat}(h:(aP n)[j]?=some u):w.cell? ⟨g,j,none⟩=some (.int .u16 (u:Nat)):=by obtain⟨h1,rfl⟩:=Bl h;exact hb.cell_of (xI _ j h1)
theorem FN(n g:Nat)(w:World)(HL:eF w)(hb:aw w g 172 (g16 (eE n))):Calls prog 112 #[.slice (some ⟨g,0,none⟩) 8 8] w (Rn w (.string ⟨(aU (aP n)).toArray⟩)):=
 Dq (aP n) (fun _ hu=>gT hu) g 0 8 (XE _) w HL (fun j u hu=>by rw[XS];exact hb.eE hu) hb.lt
set_option maxHeartbeats 4000000 in
theorem Gm(n:Nat)(hn:n < 2^128)(h:jt true n=true)(w:World)(HL:eF w):Calls prog 53 #[.agg (cD true n).toArray] w fun e w'=>e=.returned (.tuple #[.string ⟨(cK (aP n)).toArray⟩,.int .i64 0])∧ai [] w w':=by
 have HA:=hid (aw.new w 24 (cD true n).toArray);have HC:=hid ((ai.refl [] w).alloc (.cells (cD true n).toArray 24));have HK:=hid (pK true n hn);rw[show dM true n=0 by unfold dM;rw[h];rfl]at HK;have HLL:=hid HL;have HGR:=hid (Nj true n);obtain⟨f,t,hG⟩:∃f t,fK (zs (aP n))=(f,t):=⟨_,_,rfl⟩;have hfg:=xS (aP n) rfl;have HGP:=hid (VB n);have HT6:=hid (show cK (aP n)=if f=t then aU (aP n)else aU ((aP n).take f)++(58::58::aU ((aP n).drop t))by unfold cK;rw[hG]);rw[hG]at HGP hfg;obtain⟨hft,ht8,_⟩:=hfg;simp only at hft ht8;clear hn HL hG;by_cases hq:f=t
 ·subst hq
  have HTE:=hid (show cK (aP n)=aU (aP n)from HT6.out.trans (if_pos rfl));rw[HTE.out];go_enter func53,ntmps53
  go_wp2_with (first
   | (go_at_call 109;refine(HK.out _).mono ?_;rintro e w2 ⟨rfl,C2⟩;have cb:=(HA.out.aJ C2 (by simp)).cell_of (ud true (ah n)))
   | (go_at_call 110;refine(HGR.out _).mono ?_;rintro e w3 ⟨rfl,C3⟩)
   | (go_at_call 111;refine(HGP.out _).mono ?_;rintro e w4 ⟨rfl,C4⟩)
   | (go_at_call 112;refine(FN n w3.heap.size w4 (HLL.out.dO (((((HC.out.trans C2).trans C3).alloc (.cells z87 172)).setRow (.inr (XX (HC.out.trans C2).size C3.size)) (g16 (eE n)).toArray).trans C4)) (((aw.new w3 172 z87).row _).aJ C4 (by simp))).mono ?_;rintro e w5 ⟨rfl,C5⟩)
   | (refine jH rfl _ rfl w.heap.size rfl 24 true n (HA.out.aJ C2 (by simp)) ?_)
   | (refine jH rfl _ rfl w.heap.size rfl 24 true n HA.out ?_)
   | (refine SD rfl _ _ rfl w3.heap.size (eE n) rfl rfl 172 _ (aw.new w3 172 z87) rfl ?_)
   | (refine Ts rfl _ rfl w3.heap.size rfl 172 (eE n) ((aw.new w3 172 z87).row _) ?_))
  go_ret2
  exact⟨rfl,(((((HC.out.trans C2).trans C3).alloc (.cells z87 172)).setRow (.inr (XX (HC.out.trans C2).size C3.size)) (g16 (eE n)).toArray).trans C4).trans C5⟩
 ·have dq:decide ((f:Int)=(t:Int))=false:=decide_eq_false (by omega)
  have HTE:=hid (show cK (aP n)=aU ((aP n).take f)++(58::58::aU ((aP n).drop t))from HT6.out.trans (if_neg hq));obtain⟨X,hX⟩:∃X,X=aU ((aP n).take f):=⟨_,rfl⟩;obtain⟨Y,hY⟩:∃Y,Y=aU ((aP n).drop t):=⟨_,rfl⟩;rw[←hX,←hY]at HTE;have HX:=hid hX;have HY:=hid hY;clear hX hY;rw[HTE.out];go_enter func53,ntmps53
  go_wp2_with (first
   | (go_at_call 109;refine(HK.out _).mono ?_;rintro e w2 ⟨rfl,C2⟩;have cb:=(HA.out.aJ C2 (by simp)).cell_of (ud true (ah n)))
   | (go_at_call 110;refine(HGR.out _).mono ?_;rintro e w3 ⟨rfl,C3⟩)
   | (go_at_call 111;refine(HGP.out _).mono ?_;rintro e w4 ⟨rfl,C4⟩)
   | (refine jH rfl _ rfl w.heap.size rfl 24 true n (HA.out.aJ C2 (by simp)) ?_)
   | (refine jH rfl _ rfl w.heap.size rfl 24 true n HA.out ?_)
   | (refine SD rfl _ _ rfl w3.heap.size (eE n) rfl rfl 172 _ (aw.new w3 172 z87) rfl ?_)
   | (refine Ts rfl _ rfl w3.heap.size rfl 172 (eE n) ((aw.new w3 172 z87).row _) ?_))
  obtain⟨w5,hw5⟩:∃w5,w5=w4:=⟨_,rfl⟩;have hB:aw w4 w3.heap.size 172 (g16 (eE n)):=((aw.new w3 172 z87).row _).aJ C4 (by simp);have hC:ai [] w w4:=(((((HC.out.trans C2).trans C3).alloc (.cells z87 172)).setRow (.inr (XX (HC.out.trans C2).size C3.size)) (g16 (eE n)).toArray).trans C4);obtain⟨g,hg⟩:∃g,g=w3.heap.size:=⟨_,rfl⟩;rw[←hg]at hB ⊢;rw[←hw5]at hB hC ⊢;clear hw5 hg C4 cb C3 C2 HA HC w2 w3 w4;have hL:=HLL.out.dO hC;have hal:prog.arrayLen 172=8:=by kernel_rfl
  have hs1:∀W,(XP 172 (.pointer (some ⟨g,0,none⟩)) none (some (.int .i64 (f:Nat))) none).run prog W=.ok (.slice (some ⟨g,0,none⟩) f 8) W:=fun W=>by rw[run_sliceAt_array_h (P:=prog) W 172 ⟨g,0,none⟩ (by kernel_rfl) .i64 (f:Nat) (by omega) (by omega)];go_simp
  obtain⟨o2,ho2⟩:∃o2,o2=if 8=t then 0 else t:=⟨_,rfl⟩
  have hs2:∀W,(XP 172 (.pointer (some ⟨g,0,none⟩)) (some (.int .i64 (t:Nat))) none none).run prog W=.ok (.slice (some ⟨g,o2,none⟩) (8 - t) (8 - t)) W:=fun W=>by
   rw[run_sliceAt_array_l (P:=prog) W 172 ⟨g,0,none⟩ (by kernel_rfl) .i64 (t:Nat) (by omega) (by omega)];rw[ho2];by_cases h8:8=t
   ·rw[if_pos h8];subst h8;go_simp
   ·rw[if_neg h8];go_simp
  have hj1:=Dp ((aP n).take f) (fun u hu=>gT (XY hu)) g 0 8 (by rw[XT];omega) w5 hL (fun j u hu=>by
   rw[XS];rw[List.getElem?_take]at hu;split at hu
   ·exact hB.eE hu
   ·cases hu) hB.lt
  have hj2:=Dp ((aP n).drop t) (fun u hu=>gT (XZ hu)) g o2 (8 - t) (by rw[XI,eQ]; omega) w5 hL (fun j u hu=>by rw[List.getElem?_drop]at hu;have h8:=(Bl hu).1;rw[ho2,if_neg (by omega)];exact hB.eE hu) hB.lt;rw[XT,eQ,Nat.min_eq_left (by omega)]at hj1;rw[XI,eQ]at hj2;have hlen:∀m:List Nat,(∀u∈m,u < 65536)→m.length≤8→((aU m).length:Int)≤8000:=fun m hm hm8=>by have:=kB 58 4 (m.map (aq 16)) (fun x hx=>by rw[XW]at hx;obtain⟨u,hu,rfl⟩:=hx;exact fk (hm u hu));rw[XN]at this;unfold aU;omega
  have hl1:=hlen ((aP n).take f) (fun u hu=>gT (XY hu)) (by rw[XT];omega);have hl2:=hlen ((aP n).drop t) (fun u hu=>gT (XZ hu)) (by rw[XI,eQ];omega);rw[←HX.out]at hl1 hj1;rw[←HY.out]at hl2 hj2;have had1:∀W,(Op.stringOp .add ⟨X.toArray⟩ ⟨#[58,58]⟩).run prog W=.ok (.string ⟨(X++[58,58]).toArray⟩) W:=fun W=>run_string_add_lists W X [58,58] (by omega) (by decide);have had2:∀W,(Op.stringOp .add ⟨(X++[58,58]).toArray⟩ ⟨Y.toArray⟩).run prog W=.ok (.string ⟨(X++(58::58::Y)).toArray⟩) W:=fun W=>by have:=run_string_add_lists (P:=prog) W (X++[58,58]) Y (by simp;omega) (by omega);rw[this];simp
  clear hl1 hl2 hlen;have HJ1:=hid hj1;have HJ2:=hid hj2;clear hj1 hj2 hal ho2 hB hL;refine wp_region_quiet_below (by kernel_rfl) (by kernel_rfl) ?_;repeat (first|go_big_quiet_step ((first | (go_at_call 112;with_reducible exact HJ1.out _ _) | (go_at_call 112;with_reducible exact HJ2.out _ _)))|quiet_step ((first | (go_at_call 112;with_reducible exact HJ1.out _ _) | (go_at_call 112;with_reducible exact HJ2.out _ _))))
  refine wpQuiet_nil ?_;intro w6 hw6;have C6:=fV hw6;clear hw6;go_wp2
  go_ret2
  exact⟨rfl,hC.trans C6⟩
theorem rX(v:Bool)(n:Nat)(hn:n < 2^128)(w:World)(HL:eF w):Calls prog 53 #[.agg (cD v n).toArray] w (Rn w (.tuple #[.string ⟨(gk v n).toArray⟩,.int .i64 (dM v n)])):=by
 cases h:jt v n with
 |false=>rw[show gk v n=[] by unfold gk;rw[h];rfl,show dM v n=150 by unfold dM;rw[h];rfl];exact Ep v n hn h w
 |true=>
  rw[show gk v n=eL v n by unfold gk;rw[h];rfl,show dM v n=0 by unfold dM;rw[h];rfl];cases v
  ·exact Gn n hn h w HL
  ·exact Gm n hn h w HL
end Go.Proofs.YtnncigmpcdehnaaGreatDoor
