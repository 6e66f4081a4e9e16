/- Calls on plain values, reckoned. -/
import Derived.Test.YtmjmnigiegadiaaGreatDoorGr14
import Derived.Test.YtmjmnigiegadiaaGreatDoorGr16
namespace Go.Proofs.YtmjmnigiegadiaaGreatDoor
open Go Go.RowKit Go.Lib Go.Sort Ax
set_option maxRecDepth 100000
theorem mr176 (v7 v8 : Nat × Value) : runTd hmT hNT (Lay.grd (Lt v7 v8)) (XM v7 v8 [mm20 v7 v8]) 40 8 [.string ⟨#[114, 117, 108, 101, 32, 97, 32, 97, 110, 121, 32, 45, 62, 32, 111, 117, 116, 32, 51, 32, 109, 101, 116, 101, 114]⟩] = some ⟨[], .v (.bool true)⟩ := by kernel_rfl
noncomputable def mm176 (v7 v8 : Nat × Value) : Memo Tryz.prog (LayOk (Lt v7 v8)) := ⟨8, [.string ⟨#[114, 117, 108, 101, 32, 97, 32, 97, 110, 121, 32, 45, 62, 32, 111, 117, 116, 32, 51, 32, 109, 101, 116, 101, 114]⟩], ⟨[], .v (.bool true)⟩, by kernel_rfl, by kernel_rfl, memo_tidy (D := Lay.grd (Lt v7 v8)) (mr176 v7 v8)⟩
theorem mr177 (v7 v8 : Nat × Value) : runTd hmT hNT (Lay.grd (Lt v7 v8)) (XM v7 v8 [mm20 v7 v8]) 40 7 [.string ⟨#[109, 105, 114, 114, 111, 114, 32, 97, 32, 49, 32, 50]⟩] = some ⟨[], .v (.bool true)⟩ := by kernel_rfl
noncomputable def mm177 (v7 v8 : Nat × Value) : Memo Tryz.prog (LayOk (Lt v7 v8)) := ⟨7, [.string ⟨#[109, 105, 114, 114, 111, 114, 32, 97, 32, 49, 32, 50]⟩], ⟨[], .v (.bool true)⟩, by kernel_rfl, by kernel_rfl, memo_tidy (D := Lay.grd (Lt v7 v8)) (mr177 v7 v8)⟩
theorem mr178 (v7 v8 : Nat × Value) : runTd hmT hNT (Lay.grd (Lt v7 v8)) (XM v7 v8 [mm20 v7 v8]) 40 8 [.string ⟨#[109, 105, 114, 114, 111, 114, 32, 97, 32, 49, 32, 50]⟩] = some ⟨[], .v (.bool true)⟩ := by kernel_rfl
noncomputable def mm178 (v7 v8 : Nat × Value) : Memo Tryz.prog (LayOk (Lt v7 v8)) := ⟨8, [.string ⟨#[109, 105, 114, 114, 111, 114, 32, 97, 32, 49, 32, 50]⟩], ⟨[], .v (.bool true)⟩, by kernel_rfl, by kernel_rfl, memo_tidy (D := Lay.grd (Lt v7 v8)) (mr178 v7 v8)⟩
end Go.Proofs.YtmjmnigiegadiaaGreatDoor

/- Calls on plain values, reckoned. -/
namespace Go.Proofs.YtmjmnigiegadiaaGreatDoor
open Go Go.RowKit Go.Lib Go.Sort Ax
set_option maxRecDepth 100000
theorem mr179 (v7 v8 : Nat × Value) : runTd hmT hNT (Lay.grd (Lt v7 v8)) (XM v7 v8 [mm20 v7 v8]) 40 7 [.string ⟨#[114, 117, 108, 101, 32, 45, 62, 32, 97, 110, 121, 32, 45, 62, 32, 100, 114, 111, 112]⟩] = some ⟨[], .v (.bool true)⟩ := by kernel_rfl
noncomputable def mm179 (v7 v8 : Nat × Value) : Memo Tryz.prog (LayOk (Lt v7 v8)) := ⟨7, [.string ⟨#[114, 117, 108, 101, 32, 45, 62, 32, 97, 110, 121, 32, 45, 62, 32, 100, 114, 111, 112]⟩], ⟨[], .v (.bool true)⟩, by kernel_rfl, by kernel_rfl, memo_tidy (D := Lay.grd (Lt v7 v8)) (mr179 v7 v8)⟩
theorem mr180 (v7 v8 : Nat × Value) : runTd hmT hNT (Lay.grd (Lt v7 v8)) (XM v7 v8 [mm20 v7 v8]) 40 8 [.string ⟨#[114, 117, 108, 101, 32, 45, 62, 32, 97, 110, 121, 32, 45, 62, 32, 100, 114, 111, 112]⟩] = some ⟨[], .v (.bool true)⟩ := by kernel_rfl
noncomputable def mm180 (v7 v8 : Nat × Value) : Memo Tryz.prog (LayOk (Lt v7 v8)) := ⟨8, [.string ⟨#[114, 117, 108, 101, 32, 45, 62, 32, 97, 110, 121, 32, 45, 62, 32, 100, 114, 111, 112]⟩], ⟨[], .v (.bool true)⟩, by kernel_rfl, by kernel_rfl, memo_tidy (D := Lay.grd (Lt v7 v8)) (mr180 v7 v8)⟩
theorem mr181 (v7 v8 : Nat × Value) : runTd hmT hNT (Lay.grd (Lt v7 v8)) (XM v7 v8 [mm20 v7 v8]) 40 7 [.string ⟨#[100, 101, 102, 97, 117, 108, 116, 32, 114, 101, 106, 101, 99, 116, 35, 120]⟩] = some ⟨[], .v (.bool true)⟩ := by kernel_rfl
noncomputable def mm181 (v7 v8 : Nat × Value) : Memo Tryz.prog (LayOk (Lt v7 v8)) := ⟨7, [.string ⟨#[100, 101, 102, 97, 117, 108, 116, 32, 114, 101, 106, 101, 99, 116, 35, 120]⟩], ⟨[], .v (.bool true)⟩, by kernel_rfl, by kernel_rfl, memo_tidy (D := Lay.grd (Lt v7 v8)) (mr181 v7 v8)⟩
end Go.Proofs.YtmjmnigiegadiaaGreatDoor
