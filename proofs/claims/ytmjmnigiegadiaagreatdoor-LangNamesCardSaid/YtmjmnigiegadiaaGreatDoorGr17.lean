/- Calls on plain values, reckoned. -/
import Derived.Test.YtmjmnigiegadiaaGreatDoorGr14
import Derived.Test.YtmjmnigiegadiaaGreatDoorGr16
namespace Go.Proofs.YtmjmnigiegadiaaGreatDoor
open Go Go.RowKit Go.Lib Go.Sort Ax
set_option maxRecDepth 100000
theorem mr29 (v7 v8 : Nat × Value) : runTd hmT hNT (Lay.grd (Lt v7 v8)) (XM v7 v8 [mm20 v7 v8]) 40 7 [.string ⟨#[112, 111, 114, 116, 32, 48, 51]⟩] = some ⟨[], .v (.bool true)⟩ := by kernel_rfl
noncomputable def mm29 (v7 v8 : Nat × Value) : Memo Tryz.prog (LayOk (Lt v7 v8)) := ⟨7, [.string ⟨#[112, 111, 114, 116, 32, 48, 51]⟩], ⟨[], .v (.bool true)⟩, by kernel_rfl, by kernel_rfl, memo_tidy (D := Lay.grd (Lt v7 v8)) (mr29 v7 v8)⟩
theorem mr30 (v7 v8 : Nat × Value) : runTd hmT hNT (Lay.grd (Lt v7 v8)) (XM v7 v8 [mm20 v7 v8]) 40 8 [.string ⟨#[112, 111, 114, 116, 32, 48, 51]⟩] = some ⟨[], .v (.bool true)⟩ := by kernel_rfl
noncomputable def mm30 (v7 v8 : Nat × Value) : Memo Tryz.prog (LayOk (Lt v7 v8)) := ⟨8, [.string ⟨#[112, 111, 114, 116, 32, 48, 51]⟩], ⟨[], .v (.bool true)⟩, by kernel_rfl, by kernel_rfl, memo_tidy (D := Lay.grd (Lt v7 v8)) (mr30 v7 v8)⟩
theorem mr31 (v7 v8 : Nat × Value) : runTd hmT hNT (Lay.grd (Lt v7 v8)) (XM v7 v8 [mm20 v7 v8]) 40 7 [.string ⟨#[112, 111, 114, 116]⟩] = some ⟨[], .v (.bool true)⟩ := by kernel_rfl
noncomputable def mm31 (v7 v8 : Nat × Value) : Memo Tryz.prog (LayOk (Lt v7 v8)) := ⟨7, [.string ⟨#[112, 111, 114, 116]⟩], ⟨[], .v (.bool true)⟩, by kernel_rfl, by kernel_rfl, memo_tidy (D := Lay.grd (Lt v7 v8)) (mr31 v7 v8)⟩
theorem mr32 (v7 v8 : Nat × Value) : runTd hmT hNT (Lay.grd (Lt v7 v8)) (XM v7 v8 [mm20 v7 v8]) 40 8 [.string ⟨#[112, 111, 114, 116]⟩] = some ⟨[], .v (.bool true)⟩ := by kernel_rfl
noncomputable def mm32 (v7 v8 : Nat × Value) : Memo Tryz.prog (LayOk (Lt v7 v8)) := ⟨8, [.string ⟨#[112, 111, 114, 116]⟩], ⟨[], .v (.bool true)⟩, by kernel_rfl, by kernel_rfl, memo_tidy (D := Lay.grd (Lt v7 v8)) (mr32 v7 v8)⟩
theorem mr33 (v7 v8 : Nat × Value) : runTd hmT hNT (Lay.grd (Lt v7 v8)) (XM v7 v8 [mm20 v7 v8]) 40 7 [.string ⟨#[112, 111, 114, 116, 32, 51, 32, 52]⟩] = some ⟨[], .v (.bool true)⟩ := by kernel_rfl
noncomputable def mm33 (v7 v8 : Nat × Value) : Memo Tryz.prog (LayOk (Lt v7 v8)) := ⟨7, [.string ⟨#[112, 111, 114, 116, 32, 51, 32, 52]⟩], ⟨[], .v (.bool true)⟩, by kernel_rfl, by kernel_rfl, memo_tidy (D := Lay.grd (Lt v7 v8)) (mr33 v7 v8)⟩
theorem mr34 (v7 v8 : Nat × Value) : runTd hmT hNT (Lay.grd (Lt v7 v8)) (XM v7 v8 [mm20 v7 v8]) 40 8 [.string ⟨#[112, 111, 114, 116, 32, 51, 32, 52]⟩] = some ⟨[], .v (.bool true)⟩ := by kernel_rfl
noncomputable def mm34 (v7 v8 : Nat × Value) : Memo Tryz.prog (LayOk (Lt v7 v8)) := ⟨8, [.string ⟨#[112, 111, 114, 116, 32, 51, 32, 52]⟩], ⟨[], .v (.bool true)⟩, by kernel_rfl, by kernel_rfl, memo_tidy (D := Lay.grd (Lt v7 v8)) (mr34 v7 v8)⟩
end Go.Proofs.YtmjmnigiegadiaaGreatDoor

/- Calls on plain values, reckoned. -/
namespace Go.Proofs.YtmjmnigiegadiaaGreatDoor
open Go Go.RowKit Go.Lib Go.Sort Ax
set_option maxRecDepth 100000
theorem mr35 (v7 v8 : Nat × Value) : runTd hmT hNT (Lay.grd (Lt v7 v8)) (XM v7 v8 [mm20 v7 v8]) 40 7 [.string ⟨#[112, 111, 114, 116, 115, 32, 51]⟩] = some ⟨[], .v (.bool true)⟩ := by kernel_rfl
noncomputable def mm35 (v7 v8 : Nat × Value) : Memo Tryz.prog (LayOk (Lt v7 v8)) := ⟨7, [.string ⟨#[112, 111, 114, 116, 115, 32, 51]⟩], ⟨[], .v (.bool true)⟩, by kernel_rfl, by kernel_rfl, memo_tidy (D := Lay.grd (Lt v7 v8)) (mr35 v7 v8)⟩
theorem mr36 (v7 v8 : Nat × Value) : runTd hmT hNT (Lay.grd (Lt v7 v8)) (XM v7 v8 [mm20 v7 v8]) 40 8 [.string ⟨#[112, 111, 114, 116, 115, 32, 51]⟩] = some ⟨[], .v (.bool true)⟩ := by kernel_rfl
noncomputable def mm36 (v7 v8 : Nat × Value) : Memo Tryz.prog (LayOk (Lt v7 v8)) := ⟨8, [.string ⟨#[112, 111, 114, 116, 115, 32, 51]⟩], ⟨[], .v (.bool true)⟩, by kernel_rfl, by kernel_rfl, memo_tidy (D := Lay.grd (Lt v7 v8)) (mr36 v7 v8)⟩
theorem mr37 (v7 v8 : Nat × Value) : runTd hmT hNT (Lay.grd (Lt v7 v8)) (XM v7 v8 [mm20 v7 v8]) 40 7 [.string ⟨#[112, 111, 114, 116, 32, 57, 50, 50, 51, 51, 55, 50, 48, 51, 54, 56, 53, 52, 55, 55, 53, 56, 48, 56]⟩] = some ⟨[], .v (.bool true)⟩ := by kernel_rfl
noncomputable def mm37 (v7 v8 : Nat × Value) : Memo Tryz.prog (LayOk (Lt v7 v8)) := ⟨7, [.string ⟨#[112, 111, 114, 116, 32, 57, 50, 50, 51, 51, 55, 50, 48, 51, 54, 56, 53, 52, 55, 55, 53, 56, 48, 56]⟩], ⟨[], .v (.bool true)⟩, by kernel_rfl, by kernel_rfl, memo_tidy (D := Lay.grd (Lt v7 v8)) (mr37 v7 v8)⟩
theorem mr38 (v7 v8 : Nat × Value) : runTd hmT hNT (Lay.grd (Lt v7 v8)) (XM v7 v8 [mm20 v7 v8]) 40 8 [.string ⟨#[112, 111, 114, 116, 32, 57, 50, 50, 51, 51, 55, 50, 48, 51, 54, 56, 53, 52, 55, 55, 53, 56, 48, 56]⟩] = some ⟨[], .v (.bool true)⟩ := by kernel_rfl
noncomputable def mm38 (v7 v8 : Nat × Value) : Memo Tryz.prog (LayOk (Lt v7 v8)) := ⟨8, [.string ⟨#[112, 111, 114, 116, 32, 57, 50, 50, 51, 51, 55, 50, 48, 51, 54, 56, 53, 52, 55, 55, 53, 56, 48, 56]⟩], ⟨[], .v (.bool true)⟩, by kernel_rfl, by kernel_rfl, memo_tidy (D := Lay.grd (Lt v7 v8)) (mr38 v7 v8)⟩
end Go.Proofs.YtmjmnigiegadiaaGreatDoor
