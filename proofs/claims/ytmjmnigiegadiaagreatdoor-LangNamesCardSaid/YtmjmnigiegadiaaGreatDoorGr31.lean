/- LangNames: from where both long texts have been read, on. -/
import Derived.Test.YtmjmnigiegadiaaGreatDoorGr14
import Derived.Test.YtmjmnigiegadiaaGreatDoorGr16
import Derived.Test.YtmjmnigiegadiaaGreatDoorGr17
import Derived.Test.YtmjmnigiegadiaaGreatDoorGr18
import Derived.Test.YtmjmnigiegadiaaGreatDoorGr19
import Derived.Test.YtmjmnigiegadiaaGreatDoorGr20
import Derived.Test.YtmjmnigiegadiaaGreatDoorGr22
import Derived.Test.YtmjmnigiegadiaaGreatDoorGr23
import Derived.Test.YtmjmnigiegadiaaGreatDoorGr24
import Derived.Test.YtmjmnigiegadiaaGreatDoorGr25
import Derived.Test.YtmjmnigiegadiaaGreatDoorGr26
import Derived.Test.YtmjmnigiegadiaaGreatDoorGr27
import Derived.Test.YtmjmnigiegadiaaGreatDoorGr28
import Derived.Test.YtmjmnigiegadiaaGreatDoorGr29
import Derived.Test.YtmjmnigiegadiaaGreatDoorGr30
namespace Go.Proofs.YtmjmnigiegadiaaGreatDoor
open Go Go.RowKit Go.Lib Go.Sort Ax
set_option maxRecDepth 100000
noncomputable def mmAll (v7 v8 : Nat × Value) : List (Memo Tryz.prog (LayOk (Lt v7 v8))) := [mm20 v7 v8, mm21 v7 v8, mm22 v7 v8, mm23 v7 v8, mm24 v7 v8, mm25 v7 v8, mm26 v7 v8, mm27 v7 v8, mm28 v7 v8, mm29 v7 v8, mm30 v7 v8, mm31 v7 v8, mm32 v7 v8, mm33 v7 v8, mm34 v7 v8, mm35 v7 v8, mm36 v7 v8, mm37 v7 v8, mm38 v7 v8, mm43 v7 v8, mm44 v7 v8, mm45 v7 v8, mm46 v7 v8, mm47 v7 v8, mm48 v7 v8, mm53 v7 v8, mm54 v7 v8, mm59 v7 v8, mm60 v7 v8, mm107 v7 v8, mm108 v7 v8, mm109 v7 v8, mm110 v7 v8, mm111 v7 v8, mm112 v7 v8, mm118 v7 v8, mm119 v7 v8, mm125 v7 v8, mm126 v7 v8, mm132 v7 v8, mm133 v7 v8, mm139 v7 v8, mm140 v7 v8, mm145 v7 v8, mm146 v7 v8, mm151 v7 v8, mm152 v7 v8, mm157 v7 v8, mm158 v7 v8, mm163 v7 v8, mm164 v7 v8, mm169 v7 v8, mm170 v7 v8, mm175 v7 v8, mm176 v7 v8, mm177 v7 v8, mm178 v7 v8, mm179 v7 v8, mm180 v7 v8, mm181 v7 v8, mm182 v7 v8, mm183 v7 v8, mm184 v7 v8, mm199 v7 v8, mm200 v7 v8, mm201 v7 v8, mm202 v7 v8, mm203 v7 v8, mm204 v7 v8]
noncomputable def XL (v7 v8 : Nat × Value) := XM v7 v8 (mmAll v7 v8)
noncomputable def ML (v7 v8 : Nat × Value) := mchG hmT hNT (Lay.grd (Lt v7 v8)) (XL v7 v8) 40
noncomputable abbrev exL (v7 v8 : Nat × Value) (c : Code) (s : Cst) := exF Tryz.prog (opRa (Lay.grd (Lt v7 v8)) (XL v7 v8)) (opRd (Lay.grd (Lt v7 v8)) (XL v7 v8) (ML v7 v8)) (ML v7 v8).rc 157 3 c s
def st1 (xs : List Value) : Cst := ⟨[(0, .v (.bool false)), (1, .o 0), (2, .v (.int .i64 65537)), (4, .ifc 52 (.p 1 0)), (5, .p 2 0), (6, .v .nilIface), (3, .p 3 0)], [.s 5 1 65537 xs, .c none 55 (.vs [.int .i64 4, .int .i64 0]), .c none 29 (.vs [.slice none 0 0, .slice none 0 0, .slice none 0 0, .slice none 0 0, .slice none 0 0, .int .i64 2]), .c none 29 (.vs [.slice none 0 0, .slice none 0 0, .slice none 0 0, .slice none 0 0, .slice none 0 0, .int .i64 0])], []⟩
end Go.Proofs.YtmjmnigiegadiaaGreatDoor
