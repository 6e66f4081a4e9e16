/- Calls on plain values, reckoned. -/
import Derived.Test.YtmjmnigiegadiaaGreatDoorGr14
import Derived.Test.YtmjmnigiegadiaaGreatDoorGr16
import Derived.Test.YtmjmnigiegadiaaGreatDoorGr20
import Derived.Test.YtmjmnigiegadiaaGreatDoorGr21
namespace Go.Proofs.YtmjmnigiegadiaaGreatDoor
open Go Go.RowKit Go.Lib Go.Sort Ax
set_option maxRecDepth 100000
theorem mr105 (v7 v8 : Nat × Value) : runTd hmT hNT (Lay.grd (Lt v7 v8)) (XM v7 v8 [mm67 v7 v8, mm69 v7 v8, mm71 v7 v8, mm73 v7 v8, mm75 v7 v8, mm77 v7 v8, mm79 v7 v8, mm81 v7 v8, mm83 v7 v8, mm85 v7 v8, mm87 v7 v8, mm89 v7 v8, mm91 v7 v8, mm93 v7 v8, mm95 v7 v8, mm97 v7 v8, mm99 v7 v8, mm101 v7 v8, mm103 v7 v8, mm104 v7 v8]) 40 109 [.string ⟨#[49, 48, 46, 48, 46, 48, 46, 49, 47, 56]⟩] = some ⟨[], .tp [.v (.agg #[.bool false, .int .u8 0, .int .u8 0, .int .u8 0, .int .u8 0, .int .u8 0, .int .u8 0, .int .u8 0, .int .u8 0, .int .u8 0, .int .u8 0, .int .u8 0, .int .u8 0, .int .u8 0, .int .u8 0, .int .u8 0, .int .u8 0, .int .i64 0]), .v (.int .i64 151)]⟩ := by kernel_rfl
noncomputable def mm105 (v7 v8 : Nat × Value) : Memo Tryz.prog (LayOk (Lt v7 v8)) := ⟨109, [.string ⟨#[49, 48, 46, 48, 46, 48, 46, 49, 47, 56]⟩], ⟨[], .tp [.v (.agg #[.bool false, .int .u8 0, .int .u8 0, .int .u8 0, .int .u8 0, .int .u8 0, .int .u8 0, .int .u8 0, .int .u8 0, .int .u8 0, .int .u8 0, .int .u8 0, .int .u8 0, .int .u8 0, .int .u8 0, .int .u8 0, .int .u8 0, .int .i64 0]), .v (.int .i64 151)]⟩, by kernel_rfl, by kernel_rfl, memo_tidy (D := Lay.grd (Lt v7 v8)) (mr105 v7 v8)⟩
theorem mr106 (v7 v8 : Nat × Value) : runTd hmT hNT (Lay.grd (Lt v7 v8)) (XM v7 v8 [mm66 v7 v8, mm105 v7 v8]) 40 15 [.string ⟨#[114, 111, 117, 116, 101, 32, 49, 48, 46, 48, 46, 48, 46, 49, 47, 56, 32, 49]⟩] = some ⟨[], .tp [.v (.agg #[.slice none 0 0, .slice none 0 0, .slice none 0 0, .slice none 0 0, .slice none 0 0, .int .i64 0]), .v (.int .i64 151), .v (.int .i64 1)]⟩ := by kernel_rfl
noncomputable def mm106 (v7 v8 : Nat × Value) : Memo Tryz.prog (LayOk (Lt v7 v8)) := ⟨15, [.string ⟨#[114, 111, 117, 116, 101, 32, 49, 48, 46, 48, 46, 48, 46, 49, 47, 56, 32, 49]⟩], ⟨[], .tp [.v (.agg #[.slice none 0 0, .slice none 0 0, .slice none 0 0, .slice none 0 0, .slice none 0 0, .int .i64 0]), .v (.int .i64 151), .v (.int .i64 1)]⟩, by kernel_rfl, by kernel_rfl, memo_tidy (D := Lay.grd (Lt v7 v8)) (mr106 v7 v8)⟩
theorem mr107 (v7 v8 : Nat × Value) : runTd hmT hNT (Lay.grd (Lt v7 v8)) (XM v7 v8 [mm65 v7 v8, mm106 v7 v8, mm20 v7 v8]) 40 7 [.string ⟨#[114, 111, 117, 116, 101, 32, 49, 48, 46, 48, 46, 48, 46, 49, 47, 56, 32, 49]⟩] = some ⟨[], .v (.bool true)⟩ := by kernel_rfl
noncomputable def mm107 (v7 v8 : Nat × Value) : Memo Tryz.prog (LayOk (Lt v7 v8)) := ⟨7, [.string ⟨#[114, 111, 117, 116, 101, 32, 49, 48, 46, 48, 46, 48, 46, 49, 47, 56, 32, 49]⟩], ⟨[], .v (.bool true)⟩, by kernel_rfl, by kernel_rfl, memo_tidy (D := Lay.grd (Lt v7 v8)) (mr107 v7 v8)⟩
theorem mr108 (v7 v8 : Nat × Value) : runTd hmT hNT (Lay.grd (Lt v7 v8)) (XM v7 v8 [mm20 v7 v8]) 40 8 [.string ⟨#[114, 111, 117, 116, 101, 32, 49, 48, 46, 48, 46, 48, 46, 49, 47, 56, 32, 49]⟩] = some ⟨[], .v (.bool true)⟩ := by kernel_rfl
noncomputable def mm108 (v7 v8 : Nat × Value) : Memo Tryz.prog (LayOk (Lt v7 v8)) := ⟨8, [.string ⟨#[114, 111, 117, 116, 101, 32, 49, 48, 46, 48, 46, 48, 46, 49, 47, 56, 32, 49]⟩], ⟨[], .v (.bool true)⟩, by kernel_rfl, by kernel_rfl, memo_tidy (D := Lay.grd (Lt v7 v8)) (mr108 v7 v8)⟩
end Go.Proofs.YtmjmnigiegadiaaGreatDoor

/- Calls on plain values, reckoned. -/
namespace Go.Proofs.YtmjmnigiegadiaaGreatDoor
open Go Go.RowKit Go.Lib Go.Sort Ax
set_option maxRecDepth 100000
theorem mr109 (v7 v8 : Nat × Value) : runTd hmT hNT (Lay.grd (Lt v7 v8)) (XM v7 v8 [mm20 v7 v8]) 40 7 [.string ⟨#[100, 101, 102, 97, 117, 108, 116, 32, 111, 117, 116, 32, 51]⟩] = some ⟨[], .v (.bool true)⟩ := by kernel_rfl
noncomputable def mm109 (v7 v8 : Nat × Value) : Memo Tryz.prog (LayOk (Lt v7 v8)) := ⟨7, [.string ⟨#[100, 101, 102, 97, 117, 108, 116, 32, 111, 117, 116, 32, 51]⟩], ⟨[], .v (.bool true)⟩, by kernel_rfl, by kernel_rfl, memo_tidy (D := Lay.grd (Lt v7 v8)) (mr109 v7 v8)⟩
theorem mr110 (v7 v8 : Nat × Value) : runTd hmT hNT (Lay.grd (Lt v7 v8)) (XM v7 v8 [mm20 v7 v8]) 40 8 [.string ⟨#[100, 101, 102, 97, 117, 108, 116, 32, 111, 117, 116, 32, 51]⟩] = some ⟨[], .v (.bool true)⟩ := by kernel_rfl
noncomputable def mm110 (v7 v8 : Nat × Value) : Memo Tryz.prog (LayOk (Lt v7 v8)) := ⟨8, [.string ⟨#[100, 101, 102, 97, 117, 108, 116, 32, 111, 117, 116, 32, 51]⟩], ⟨[], .v (.bool true)⟩, by kernel_rfl, by kernel_rfl, memo_tidy (D := Lay.grd (Lt v7 v8)) (mr110 v7 v8)⟩
theorem mr111 (v7 v8 : Nat × Value) : runTd hmT hNT (Lay.grd (Lt v7 v8)) (XM v7 v8 [mm20 v7 v8]) 40 7 [.string ⟨#[100, 101, 102, 97, 117, 108, 116, 32, 100, 114, 111, 112, 10, 100, 101, 102, 97, 117, 108, 116, 32, 100, 114, 111, 112]⟩] = some ⟨[], .v (.bool true)⟩ := by kernel_rfl
noncomputable def mm111 (v7 v8 : Nat × Value) : Memo Tryz.prog (LayOk (Lt v7 v8)) := ⟨7, [.string ⟨#[100, 101, 102, 97, 117, 108, 116, 32, 100, 114, 111, 112, 10, 100, 101, 102, 97, 117, 108, 116, 32, 100, 114, 111, 112]⟩], ⟨[], .v (.bool true)⟩, by kernel_rfl, by kernel_rfl, memo_tidy (D := Lay.grd (Lt v7 v8)) (mr111 v7 v8)⟩
end Go.Proofs.YtmjmnigiegadiaaGreatDoor
