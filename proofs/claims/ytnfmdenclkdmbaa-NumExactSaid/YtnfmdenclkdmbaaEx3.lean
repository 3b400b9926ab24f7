/-
  The functions of the code as typed functions, and that the code runs so. Printed by gen2.py.
  The functions of the code as typed functions, and that the code runs so. Printed by gen2.py.
  The functions of the code as typed functions, and that the code runs so. Printed by gen2.py.
  The functions of the code as typed functions, and that the code runs so. Printed by gen2.py.
  The functions of the code as typed functions, and that the code runs so. Printed by gen2.py.
  The functions of the code as typed functions, and that the code runs so. Printed by gen2.py.
  The functions of the code as typed functions, and that the code runs so. Printed by gen2.py.
  The functions of the code as typed functions, and that the code runs so. Printed by gen2.py.
  The functions of the code as typed functions, and that the code runs so. Printed by gen2.py.
  The functions of the code as typed functions, and that the code runs so. Printed by gen2.py.
  The functions of the code as typed functions, and that the code runs so. Printed by gen2.py.
  The functions of the code as typed functions, and that the code runs so. Printed by gen2.py.
  The functions of the code as typed functions, and that the code runs so. Printed by gen2.py.
  The functions of the code as typed functions, and that the code runs so. Printed by gen2.py.
  The functions of the code as typed functions, and that the code runs so. Printed by gen2.py.
  The functions of the code as typed functions, and that the code runs so. Printed by gen2.py.
  The functions of the code as typed functions, and that the code runs so. Printed by gen2.py.
  The functions of the code as typed functions, and that the code runs so. Printed by gen2.py.
  The functions of the code as typed functions, and that the code runs so. Printed by gen2.py.
  The functions of the code as typed functions, and that the code runs so. Printed by gen2.py.
  The functions of the code as typed functions, and that the code runs so. Printed by gen2.py.
  The functions of the code as typed functions, and that the code runs so. Printed by gen2.py.
  The functions of the code as typed functions, and that the code runs so. Printed by gen2.py.
  The functions of the code as typed functions, and that the code runs so. Printed by gen2.py.
  The functions of the code as typed functions, and that the code runs so. Printed by gen2.py.
  The functions of the code as typed functions, and that the code runs so. Printed by gen2.py.
  The functions of the code as typed functions, and that the code runs so. Printed by gen2.py.
  The functions of the code as typed functions, and that the code runs so. Printed by gen2.py.
  The functions of the code as typed functions, and that the code runs so. Printed by gen2.py.
  The functions of the code as typed functions, and that the code runs so. Printed by gen2.py.
  The functions of the code as typed functions, and that the code runs so. Printed by gen2.py.
  The functions of the code as typed functions, and that the code runs so. Printed by gen2.py.
  The functions of the code as typed functions, and that the code runs so. Printed by gen2.py.
  The functions of the code as typed functions, and that the code runs so. Printed by gen2.py.
  The functions of the code as typed functions, and that the code runs so. Printed by gen2.py.
  The functions of the code as typed functions, and that the code runs so. Printed by gen2.py.
  The functions of the code as typed functions, and that the code runs so. Printed by gen2.py.
  The functions of the code as typed functions, and that the code runs so. Printed by gen2.py.
  The functions of the code as typed functions, and that the code runs so. Printed by gen2.py.
  The functions of the code as typed functions, and that the code runs so. Printed by gen2.py.
  The functions of the code as typed functions, and that the code runs so. Printed by gen2.py.
  The functions of the code as typed functions, and that the code runs so. Printed by gen2.py.
  The functions of the code as typed functions, and that the code runs so. Printed by gen2.py.
  The functions of the code as typed functions, and that the code runs so. Printed by gen2.py.
  The functions of the code as typed functions, and that the code runs so. Printed by gen2.py.
  The functions of the code as typed functions, and that the code runs so. Printed by gen2.py.
  The functions of the code as typed functions, and that the code runs so. Printed by gen2.py.
  The functions of the code as typed functions, and that the code runs so. Printed by gen2.py.
  The functions of the code as typed functions, and that the code runs so. Printed by gen2.py.
  The functions of the code as typed functions, and that the code runs so. Printed by gen2.py.
  The functions of the code as typed functions, and that the code runs so. Printed by gen2.py.
  The functions of the code as typed functions, and that the code runs so. Printed by gen2.py.
  The functions of the code as typed functions, and that the code runs so. Printed by gen2.py.
  The functions of the code as typed functions, and that the code runs so. Printed by gen2.py.
  The functions of the code as typed functions, and that the code runs so. Printed by gen2.py.
  The functions of the code as typed functions, and that the code runs so. Printed by gen2.py.
  The functions of the code as typed functions, and that the code runs so. Printed by gen2.py.
  The functions of the code as typed functions, and that the code runs so. Printed by gen2.py.
  The functions of the code as typed functions, and that the code runs so. Printed by gen2.py.
  The functions of the code as typed functions, and that the code runs so. Printed by gen2.py.
  The functions of the code as typed functions, and that the code runs so. Printed by gen2.py.
  The functions of the code as typed functions, and that the code runs so. Printed by gen2.py.
  The functions of the code as typed functions, and that the code runs so. Printed by gen2.py.
  The functions of the code as typed functions, and that the code runs so. Printed by gen2.py.
  The functions of the code as typed functions, and that the code runs so. Printed by gen2.py.
  The functions of the code as typed functions, and that the code runs so. Printed by gen2.py.
  The functions of the code as typed functions, and that the code runs so. Printed by gen2.py.
  The functions of the code as typed functions, and that the code runs so. Printed by gen2.py.
  The functions of the code as typed functions, and that the code runs so. Printed by gen2.py.
  The functions of the code as typed functions, and that the code runs so. Printed by gen2.py.
-/
import Derived.Test.YtnfmdenclkdmbaaEx2
import Derived.Test.YtnfmdenclkdmbaaChecked
import Derived.KernelRfl
set_option linter.all false
set_option linter.deprecated false
namespace Go.Proofs.Ytnfmdenclkdmbaa
open Go Go.Eng
set_option maxRecDepth 100000
noncomputable def code3 : Code := (Try.f3.body).getD .skip
noncomputable def code4 : Code := (Try.f4.body).getD .skip
noncomputable def code5 : Code := (Try.f5.body).getD .skip
noncomputable def code6 : Code := (Try.f6.body).getD .skip
noncomputable def code7 : Code := (Try.f7.body).getD .skip
noncomputable def code8 : Code := (Try.f8.body).getD .skip
noncomputable def code9 : Code := (Try.f9.body).getD .skip
noncomputable def code10 : Code := (Try.f10.body).getD .skip
noncomputable def code11 : Code := (Try.f11.body).getD .skip
noncomputable def code12 : Code := (Try.f12.body).getD .skip
noncomputable def code13 : Code := (Try.f13.body).getD .skip
noncomputable def code14 : Code := (Try.f14.body).getD .skip
noncomputable def code15 : Code := (Try.f15.body).getD .skip
noncomputable def code16 : Code := (Try.f16.body).getD .skip
noncomputable def code17 : Code := (Try.f17.body).getD .skip
noncomputable def code18 : Code := (Try.f18.body).getD .skip
noncomputable def code19 : Code := (Try.f19.body).getD .skip
noncomputable def code20 : Code := (Try.f20.body).getD .skip
noncomputable def code21 : Code := (Try.f21.body).getD .skip
noncomputable def code22 : Code := (Try.f22.body).getD .skip
noncomputable def code23 : Code := (Try.f23.body).getD .skip
noncomputable def code24 : Code := (Try.f24.body).getD .skip
noncomputable def code25 : Code := (Try.f25.body).getD .skip
noncomputable def code26 : Code := (Try.f26.body).getD .skip
noncomputable def code27 : Code := (Try.f27.body).getD .skip
noncomputable def code28 : Code := (Try.f28.body).getD .skip
noncomputable def code29 : Code := (Try.f29.body).getD .skip
noncomputable def code30 : Code := (Try.f30.body).getD .skip
noncomputable def code31 : Code := (Try.f31.body).getD .skip
noncomputable def code32 : Code := (Try.f32.body).getD .skip
noncomputable def code33 : Code := (Try.f33.body).getD .skip
noncomputable def code34 : Code := (Try.f34.body).getD .skip
noncomputable def code35 : Code := (Try.f35.body).getD .skip
noncomputable def code36 : Code := (Try.f36.body).getD .skip
noncomputable def code37 : Code := (Try.f37.body).getD .skip
noncomputable def code38 : Code := (Try.f38.body).getD .skip
noncomputable def code39 : Code := (Try.f39.body).getD .skip
noncomputable def code40 : Code := (Try.f40.body).getD .skip
noncomputable def code41 : Code := (Try.f41.body).getD .skip
noncomputable def code42 : Code := (Try.f42.body).getD .skip
noncomputable def code43 : Code := (Try.f43.body).getD .skip
noncomputable def code44 : Code := (Try.f44.body).getD .skip
noncomputable def code45 : Code := (Try.f45.body).getD .skip
noncomputable def code46 : Code := (Try.f46.body).getD .skip
noncomputable def code47 : Code := (Try.f47.body).getD .skip
noncomputable def code48 : Code := (Try.f48.body).getD .skip
noncomputable def code49 : Code := (Try.f49.body).getD .skip
noncomputable def code50 : Code := (Try.f50.body).getD .skip
noncomputable def code51 : Code := (Try.f51.body).getD .skip
noncomputable def code52 : Code := (Try.f52.body).getD .skip
noncomputable def code53 : Code := (Try.f53.body).getD .skip
noncomputable def code54 : Code := (Try.f54.body).getD .skip
noncomputable def code55 : Code := (Try.f55.body).getD .skip
noncomputable def code56 : Code := (Try.f56.body).getD .skip
noncomputable def code57 : Code := (Try.f57.body).getD .skip
noncomputable def code58 : Code := (Try.f58.body).getD .skip
noncomputable def code59 : Code := (Try.f59.body).getD .skip
noncomputable def code60 : Code := (Try.f60.body).getD .skip
noncomputable def code61 : Code := (Try.f61.body).getD .skip
noncomputable def code62 : Code := (Try.f62.body).getD .skip
noncomputable def code63 : Code := (Try.f63.body).getD .skip
noncomputable def code64 : Code := (Try.f64.body).getD .skip
noncomputable def code65 : Code := (Try.f65.body).getD .skip
noncomputable def code66 : Code := (Try.f66.body).getD .skip
noncomputable def code67 : Code := (Try.f67.body).getD .skip
noncomputable def code68 : Code := (Try.f68.body).getD .skip
noncomputable def code69 : Code := (Try.f69.body).getD .skip
noncomputable def code70 : Code := (Try.f70.body).getD .skip
noncomputable def code71 : Code := (Try.f71.body).getD .skip
noncomputable def code72 : Code := (Try.f72.body).getD .skip
noncomputable def code73 : Code := (Try.f73.body).getD .skip
noncomputable def code74 : Code := (Try.f74.body).getD .skip
noncomputable def code75 : Code := (Try.f75.body).getD .skip
noncomputable def code76 : Code := (Try.f76.body).getD .skip
noncomputable def code77 : Code := (Try.f77.body).getD .skip
noncomputable def code78 : Code := (Try.f78.body).getD .skip
noncomputable def code79 : Code := (Try.f79.body).getD .skip
noncomputable def code80 : Code := (Try.f80.body).getD .skip
noncomputable def code81 : Code := (Try.f81.body).getD .skip
noncomputable def code82 : Code := (Try.f82.body).getD .skip
noncomputable def code83 : Code := (Try.f83.body).getD .skip
noncomputable def code84 : Code := (Try.f84.body).getD .skip
noncomputable def code85 : Code := (Try.f85.body).getD .skip
noncomputable def code86 : Code := (Try.f86.body).getD .skip
noncomputable def code87 : Code := (Try.f87.body).getD .skip
noncomputable def code88 : Code := (Try.f88.body).getD .skip
noncomputable def code89 : Code := (Try.f89.body).getD .skip
noncomputable def code90 : Code := (Try.f90.body).getD .skip
noncomputable def code91 : Code := (Try.f91.body).getD .skip
noncomputable def code92 : Code := (Try.f92.body).getD .skip
noncomputable def code93 : Code := (Try.f93.body).getD .skip
noncomputable def code94 : Code := (Try.f94.body).getD .skip
noncomputable def code95 : Code := (Try.f95.body).getD .skip
noncomputable def code96 : Code := (Try.f96.body).getD .skip
noncomputable def siteL : List (Nat × Site) := []
def tiL : List (Nat × TI) := [
  (2, ⟨true, .int .i64, 1, 8, [.int .i64 0], [.int .i64]⟩),
  (4, ⟨true, .bool, 1, 1, [.bool false], [.bool]⟩),
  (21, ⟨true, .int .i32, 1, 4, [.int .i32 0], [.int .i32]⟩),
  (22, ⟨true, .int .u8, 1, 1, [.int .u8 0], [.int .u8]⟩),
  (23, ⟨true, .other, 1, 0, [.top], [.raw]⟩),
  (29, ⟨true, .struct [(0, 2), (1, 2)], 2, 16, [.int .i64 0, .int .i64 0], [.int .i64, .int .i64]⟩),
  (38, ⟨true, .slice 29, 1, 24, [.nilsl], [.slice 29]⟩),
  (41, ⟨true, .int .i8, 1, 1, [.int .i8 0], [.int .i8]⟩),
  (46, ⟨true, .other, 1, 8, [.nilfn], [.raw]⟩),
  (48, ⟨true, .map 22 46, 1, 8, [.nilmp], [.raw]⟩),
  (50, ⟨true, .other, 1, 8, [.nilfn], [.raw]⟩),
  (54, ⟨true, .slice 2, 1, 24, [.nilsl], [.slice 2]⟩),
  (63, ⟨true, .other, 1, 8, [.nilfn], [.raw]⟩),
  (64, ⟨true, .int .u64, 1, 8, [.int .u64 0], [.int .u64]⟩),
  (65, ⟨true, .other, 1, 0, [.top], [.raw]⟩),
  (68, ⟨true, .slice 4, 1, 24, [.nilsl], [.slice 4]⟩)]
noncomputable def CX : Cx := ⟨Try.prog, lookTI tiL, lookS siteL, fun _ => .top, lookE [29]⟩
theorem hX : CX.Ok := cx_ok (el := [29]) (by kernel_rfl) ⟨⟨by kernel_rfl, rfl⟩, ⟨by kernel_rfl, rfl⟩, ⟨by kernel_rfl, rfl⟩, ⟨by kernel_rfl, rfl⟩, ⟨by kernel_rfl, rfl⟩, ⟨by kernel_rfl, rfl⟩, ⟨by kernel_rfl, rfl⟩, ⟨by kernel_rfl, rfl⟩, ⟨by kernel_rfl, rfl⟩, ⟨by kernel_rfl, rfl⟩, ⟨by kernel_rfl, rfl⟩, ⟨by kernel_rfl, rfl⟩, ⟨by kernel_rfl, rfl⟩, ⟨by kernel_rfl, rfl⟩, ⟨by kernel_rfl, rfl⟩, ⟨by kernel_rfl, rfl⟩, trivial⟩ ⟨(by show eqOk Try.prog _ = true; kernel_rfl), trivial⟩
theorem hb3 : Try.f3.body = some code3 := by kernel_rfl
theorem en3 : ∀ (vs : Array Value) (w : World), (callFunc 3 vs).run CX.P w = .ok (.enter 3 vs) w := enters Try.func3 hb3 (by kernel_rfl)
theorem hb4 : Try.f4.body = some code4 := by kernel_rfl
theorem en4 : ∀ (vs : Array Value) (w : World), (callFunc 4 vs).run CX.P w = .ok (.enter 4 vs) w := enters Try.func4 hb4 (by kernel_rfl)
theorem hb5 : Try.f5.body = some code5 := by kernel_rfl
theorem en5 : ∀ (vs : Array Value) (w : World), (callFunc 5 vs).run CX.P w = .ok (.enter 5 vs) w := enters Try.func5 hb5 (by kernel_rfl)
theorem hb6 : Try.f6.body = some code6 := by kernel_rfl
theorem en6 : ∀ (vs : Array Value) (w : World), (callFunc 6 vs).run CX.P w = .ok (.enter 6 vs) w := enters Try.func6 hb6 (by kernel_rfl)
theorem hb7 : Try.f7.body = some code7 := by kernel_rfl
theorem en7 : ∀ (vs : Array Value) (w : World), (callFunc 7 vs).run CX.P w = .ok (.enter 7 vs) w := enters Try.func7 hb7 (by kernel_rfl)
theorem hb8 : Try.f8.body = some code8 := by kernel_rfl
theorem en8 : ∀ (vs : Array Value) (w : World), (callFunc 8 vs).run CX.P w = .ok (.enter 8 vs) w := enters Try.func8 hb8 (by kernel_rfl)
theorem hb9 : Try.f9.body = some code9 := by kernel_rfl
theorem en9 : ∀ (vs : Array Value) (w : World), (callFunc 9 vs).run CX.P w = .ok (.enter 9 vs) w := enters Try.func9 hb9 (by kernel_rfl)
theorem hb10 : Try.f10.body = some code10 := by kernel_rfl
theorem en10 : ∀ (vs : Array Value) (w : World), (callFunc 10 vs).run CX.P w = .ok (.enter 10 vs) w := enters Try.func10 hb10 (by kernel_rfl)
theorem hb11 : Try.f11.body = some code11 := by kernel_rfl
theorem en11 : ∀ (vs : Array Value) (w : World), (callFunc 11 vs).run CX.P w = .ok (.enter 11 vs) w := enters Try.func11 hb11 (by kernel_rfl)
theorem hb12 : Try.f12.body = some code12 := by kernel_rfl
theorem en12 : ∀ (vs : Array Value) (w : World), (callFunc 12 vs).run CX.P w = .ok (.enter 12 vs) w := enters Try.func12 hb12 (by kernel_rfl)
theorem hb13 : Try.f13.body = some code13 := by kernel_rfl
theorem en13 : ∀ (vs : Array Value) (w : World), (callFunc 13 vs).run CX.P w = .ok (.enter 13 vs) w := enters Try.func13 hb13 (by kernel_rfl)
theorem hb14 : Try.f14.body = some code14 := by kernel_rfl
theorem en14 : ∀ (vs : Array Value) (w : World), (callFunc 14 vs).run CX.P w = .ok (.enter 14 vs) w := enters Try.func14 hb14 (by kernel_rfl)
theorem hb15 : Try.f15.body = some code15 := by kernel_rfl
theorem en15 : ∀ (vs : Array Value) (w : World), (callFunc 15 vs).run CX.P w = .ok (.enter 15 vs) w := enters Try.func15 hb15 (by kernel_rfl)
theorem hb16 : Try.f16.body = some code16 := by kernel_rfl
theorem en16 : ∀ (vs : Array Value) (w : World), (callFunc 16 vs).run CX.P w = .ok (.enter 16 vs) w := enters Try.func16 hb16 (by kernel_rfl)
theorem hb17 : Try.f17.body = some code17 := by kernel_rfl
theorem en17 : ∀ (vs : Array Value) (w : World), (callFunc 17 vs).run CX.P w = .ok (.enter 17 vs) w := enters Try.func17 hb17 (by kernel_rfl)
theorem hb18 : Try.f18.body = some code18 := by kernel_rfl
theorem en18 : ∀ (vs : Array Value) (w : World), (callFunc 18 vs).run CX.P w = .ok (.enter 18 vs) w := enters Try.func18 hb18 (by kernel_rfl)
theorem hb19 : Try.f19.body = some code19 := by kernel_rfl
theorem en19 : ∀ (vs : Array Value) (w : World), (callFunc 19 vs).run CX.P w = .ok (.enter 19 vs) w := enters Try.func19 hb19 (by kernel_rfl)
theorem hb20 : Try.f20.body = some code20 := by kernel_rfl
theorem en20 : ∀ (vs : Array Value) (w : World), (callFunc 20 vs).run CX.P w = .ok (.enter 20 vs) w := enters Try.func20 hb20 (by kernel_rfl)
theorem hb21 : Try.f21.body = some code21 := by kernel_rfl
theorem en21 : ∀ (vs : Array Value) (w : World), (callFunc 21 vs).run CX.P w = .ok (.enter 21 vs) w := enters Try.func21 hb21 (by kernel_rfl)
theorem hb22 : Try.f22.body = some code22 := by kernel_rfl
theorem en22 : ∀ (vs : Array Value) (w : World), (callFunc 22 vs).run CX.P w = .ok (.enter 22 vs) w := enters Try.func22 hb22 (by kernel_rfl)
theorem hb23 : Try.f23.body = some code23 := by kernel_rfl
theorem en23 : ∀ (vs : Array Value) (w : World), (callFunc 23 vs).run CX.P w = .ok (.enter 23 vs) w := enters Try.func23 hb23 (by kernel_rfl)
theorem hb24 : Try.f24.body = some code24 := by kernel_rfl
theorem en24 : ∀ (vs : Array Value) (w : World), (callFunc 24 vs).run CX.P w = .ok (.enter 24 vs) w := enters Try.func24 hb24 (by kernel_rfl)
theorem hb25 : Try.f25.body = some code25 := by kernel_rfl
theorem en25 : ∀ (vs : Array Value) (w : World), (callFunc 25 vs).run CX.P w = .ok (.enter 25 vs) w := enters Try.func25 hb25 (by kernel_rfl)
theorem hb26 : Try.f26.body = some code26 := by kernel_rfl
theorem en26 : ∀ (vs : Array Value) (w : World), (callFunc 26 vs).run CX.P w = .ok (.enter 26 vs) w := enters Try.func26 hb26 (by kernel_rfl)
theorem hb27 : Try.f27.body = some code27 := by kernel_rfl
theorem en27 : ∀ (vs : Array Value) (w : World), (callFunc 27 vs).run CX.P w = .ok (.enter 27 vs) w := enters Try.func27 hb27 (by kernel_rfl)
theorem hb28 : Try.f28.body = some code28 := by kernel_rfl
theorem en28 : ∀ (vs : Array Value) (w : World), (callFunc 28 vs).run CX.P w = .ok (.enter 28 vs) w := enters Try.func28 hb28 (by kernel_rfl)
theorem hb29 : Try.f29.body = some code29 := by kernel_rfl
theorem en29 : ∀ (vs : Array Value) (w : World), (callFunc 29 vs).run CX.P w = .ok (.enter 29 vs) w := enters Try.func29 hb29 (by kernel_rfl)
theorem hb30 : Try.f30.body = some code30 := by kernel_rfl
theorem en30 : ∀ (vs : Array Value) (w : World), (callFunc 30 vs).run CX.P w = .ok (.enter 30 vs) w := enters Try.func30 hb30 (by kernel_rfl)
theorem hb31 : Try.f31.body = some code31 := by kernel_rfl
theorem en31 : ∀ (vs : Array Value) (w : World), (callFunc 31 vs).run CX.P w = .ok (.enter 31 vs) w := enters Try.func31 hb31 (by kernel_rfl)
theorem hb32 : Try.f32.body = some code32 := by kernel_rfl
theorem en32 : ∀ (vs : Array Value) (w : World), (callFunc 32 vs).run CX.P w = .ok (.enter 32 vs) w := enters Try.func32 hb32 (by kernel_rfl)
theorem hb33 : Try.f33.body = some code33 := by kernel_rfl
theorem en33 : ∀ (vs : Array Value) (w : World), (callFunc 33 vs).run CX.P w = .ok (.enter 33 vs) w := enters Try.func33 hb33 (by kernel_rfl)
theorem hb34 : Try.f34.body = some code34 := by kernel_rfl
theorem en34 : ∀ (vs : Array Value) (w : World), (callFunc 34 vs).run CX.P w = .ok (.enter 34 vs) w := enters Try.func34 hb34 (by kernel_rfl)
theorem hb35 : Try.f35.body = some code35 := by kernel_rfl
theorem en35 : ∀ (vs : Array Value) (w : World), (callFunc 35 vs).run CX.P w = .ok (.enter 35 vs) w := enters Try.func35 hb35 (by kernel_rfl)
theorem hb36 : Try.f36.body = some code36 := by kernel_rfl
theorem en36 : ∀ (vs : Array Value) (w : World), (callFunc 36 vs).run CX.P w = .ok (.enter 36 vs) w := enters Try.func36 hb36 (by kernel_rfl)
theorem hb37 : Try.f37.body = some code37 := by kernel_rfl
theorem en37 : ∀ (vs : Array Value) (w : World), (callFunc 37 vs).run CX.P w = .ok (.enter 37 vs) w := enters Try.func37 hb37 (by kernel_rfl)
theorem hb38 : Try.f38.body = some code38 := by kernel_rfl
theorem en38 : ∀ (vs : Array Value) (w : World), (callFunc 38 vs).run CX.P w = .ok (.enter 38 vs) w := enters Try.func38 hb38 (by kernel_rfl)
theorem hb39 : Try.f39.body = some code39 := by kernel_rfl
theorem en39 : ∀ (vs : Array Value) (w : World), (callFunc 39 vs).run CX.P w = .ok (.enter 39 vs) w := enters Try.func39 hb39 (by kernel_rfl)
theorem hb40 : Try.f40.body = some code40 := by kernel_rfl
theorem en40 : ∀ (vs : Array Value) (w : World), (callFunc 40 vs).run CX.P w = .ok (.enter 40 vs) w := enters Try.func40 hb40 (by kernel_rfl)
theorem hb41 : Try.f41.body = some code41 := by kernel_rfl
theorem en41 : ∀ (vs : Array Value) (w : World), (callFunc 41 vs).run CX.P w = .ok (.enter 41 vs) w := enters Try.func41 hb41 (by kernel_rfl)
theorem hb42 : Try.f42.body = some code42 := by kernel_rfl
theorem en42 : ∀ (vs : Array Value) (w : World), (callFunc 42 vs).run CX.P w = .ok (.enter 42 vs) w := enters Try.func42 hb42 (by kernel_rfl)
theorem hb43 : Try.f43.body = some code43 := by kernel_rfl
theorem en43 : ∀ (vs : Array Value) (w : World), (callFunc 43 vs).run CX.P w = .ok (.enter 43 vs) w := enters Try.func43 hb43 (by kernel_rfl)
theorem hb44 : Try.f44.body = some code44 := by kernel_rfl
theorem en44 : ∀ (vs : Array Value) (w : World), (callFunc 44 vs).run CX.P w = .ok (.enter 44 vs) w := enters Try.func44 hb44 (by kernel_rfl)
theorem hb45 : Try.f45.body = some code45 := by kernel_rfl
theorem en45 : ∀ (vs : Array Value) (w : World), (callFunc 45 vs).run CX.P w = .ok (.enter 45 vs) w := enters Try.func45 hb45 (by kernel_rfl)
theorem hb46 : Try.f46.body = some code46 := by kernel_rfl
theorem en46 : ∀ (vs : Array Value) (w : World), (callFunc 46 vs).run CX.P w = .ok (.enter 46 vs) w := enters Try.func46 hb46 (by kernel_rfl)
theorem hb47 : Try.f47.body = some code47 := by kernel_rfl
theorem en47 : ∀ (vs : Array Value) (w : World), (callFunc 47 vs).run CX.P w = .ok (.enter 47 vs) w := enters Try.func47 hb47 (by kernel_rfl)
theorem hb48 : Try.f48.body = some code48 := by kernel_rfl
theorem en48 : ∀ (vs : Array Value) (w : World), (callFunc 48 vs).run CX.P w = .ok (.enter 48 vs) w := enters Try.func48 hb48 (by kernel_rfl)
theorem hb49 : Try.f49.body = some code49 := by kernel_rfl
theorem en49 : ∀ (vs : Array Value) (w : World), (callFunc 49 vs).run CX.P w = .ok (.enter 49 vs) w := enters Try.func49 hb49 (by kernel_rfl)
theorem hb50 : Try.f50.body = some code50 := by kernel_rfl
theorem en50 : ∀ (vs : Array Value) (w : World), (callFunc 50 vs).run CX.P w = .ok (.enter 50 vs) w := enters Try.func50 hb50 (by kernel_rfl)
theorem hb51 : Try.f51.body = some code51 := by kernel_rfl
theorem en51 : ∀ (vs : Array Value) (w : World), (callFunc 51 vs).run CX.P w = .ok (.enter 51 vs) w := enters Try.func51 hb51 (by kernel_rfl)
theorem hb52 : Try.f52.body = some code52 := by kernel_rfl
theorem en52 : ∀ (vs : Array Value) (w : World), (callFunc 52 vs).run CX.P w = .ok (.enter 52 vs) w := enters Try.func52 hb52 (by kernel_rfl)
theorem hb53 : Try.f53.body = some code53 := by kernel_rfl
theorem en53 : ∀ (vs : Array Value) (w : World), (callFunc 53 vs).run CX.P w = .ok (.enter 53 vs) w := enters Try.func53 hb53 (by kernel_rfl)
theorem hb54 : Try.f54.body = some code54 := by kernel_rfl
theorem en54 : ∀ (vs : Array Value) (w : World), (callFunc 54 vs).run CX.P w = .ok (.enter 54 vs) w := enters Try.func54 hb54 (by kernel_rfl)
theorem hb55 : Try.f55.body = some code55 := by kernel_rfl
theorem en55 : ∀ (vs : Array Value) (w : World), (callFunc 55 vs).run CX.P w = .ok (.enter 55 vs) w := enters Try.func55 hb55 (by kernel_rfl)
theorem hb56 : Try.f56.body = some code56 := by kernel_rfl
theorem en56 : ∀ (vs : Array Value) (w : World), (callFunc 56 vs).run CX.P w = .ok (.enter 56 vs) w := enters Try.func56 hb56 (by kernel_rfl)
theorem hb57 : Try.f57.body = some code57 := by kernel_rfl
theorem en57 : ∀ (vs : Array Value) (w : World), (callFunc 57 vs).run CX.P w = .ok (.enter 57 vs) w := enters Try.func57 hb57 (by kernel_rfl)
theorem hb58 : Try.f58.body = some code58 := by kernel_rfl
theorem en58 : ∀ (vs : Array Value) (w : World), (callFunc 58 vs).run CX.P w = .ok (.enter 58 vs) w := enters Try.func58 hb58 (by kernel_rfl)
theorem hb59 : Try.f59.body = some code59 := by kernel_rfl
theorem en59 : ∀ (vs : Array Value) (w : World), (callFunc 59 vs).run CX.P w = .ok (.enter 59 vs) w := enters Try.func59 hb59 (by kernel_rfl)
theorem hb60 : Try.f60.body = some code60 := by kernel_rfl
theorem en60 : ∀ (vs : Array Value) (w : World), (callFunc 60 vs).run CX.P w = .ok (.enter 60 vs) w := enters Try.func60 hb60 (by kernel_rfl)
theorem hb61 : Try.f61.body = some code61 := by kernel_rfl
theorem en61 : ∀ (vs : Array Value) (w : World), (callFunc 61 vs).run CX.P w = .ok (.enter 61 vs) w := enters Try.func61 hb61 (by kernel_rfl)
theorem hb62 : Try.f62.body = some code62 := by kernel_rfl
theorem en62 : ∀ (vs : Array Value) (w : World), (callFunc 62 vs).run CX.P w = .ok (.enter 62 vs) w := enters Try.func62 hb62 (by kernel_rfl)
theorem hb63 : Try.f63.body = some code63 := by kernel_rfl
theorem en63 : ∀ (vs : Array Value) (w : World), (callFunc 63 vs).run CX.P w = .ok (.enter 63 vs) w := enters Try.func63 hb63 (by kernel_rfl)
theorem hb64 : Try.f64.body = some code64 := by kernel_rfl
theorem en64 : ∀ (vs : Array Value) (w : World), (callFunc 64 vs).run CX.P w = .ok (.enter 64 vs) w := enters Try.func64 hb64 (by kernel_rfl)
theorem hb65 : Try.f65.body = some code65 := by kernel_rfl
theorem en65 : ∀ (vs : Array Value) (w : World), (callFunc 65 vs).run CX.P w = .ok (.enter 65 vs) w := enters Try.func65 hb65 (by kernel_rfl)
theorem hb66 : Try.f66.body = some code66 := by kernel_rfl
theorem en66 : ∀ (vs : Array Value) (w : World), (callFunc 66 vs).run CX.P w = .ok (.enter 66 vs) w := enters Try.func66 hb66 (by kernel_rfl)
theorem hb67 : Try.f67.body = some code67 := by kernel_rfl
theorem en67 : ∀ (vs : Array Value) (w : World), (callFunc 67 vs).run CX.P w = .ok (.enter 67 vs) w := enters Try.func67 hb67 (by kernel_rfl)
theorem hb68 : Try.f68.body = some code68 := by kernel_rfl
theorem en68 : ∀ (vs : Array Value) (w : World), (callFunc 68 vs).run CX.P w = .ok (.enter 68 vs) w := enters Try.func68 hb68 (by kernel_rfl)
theorem hb69 : Try.f69.body = some code69 := by kernel_rfl
theorem en69 : ∀ (vs : Array Value) (w : World), (callFunc 69 vs).run CX.P w = .ok (.enter 69 vs) w := enters Try.func69 hb69 (by kernel_rfl)
theorem hb70 : Try.f70.body = some code70 := by kernel_rfl
theorem en70 : ∀ (vs : Array Value) (w : World), (callFunc 70 vs).run CX.P w = .ok (.enter 70 vs) w := enters Try.func70 hb70 (by kernel_rfl)
theorem hb71 : Try.f71.body = some code71 := by kernel_rfl
theorem en71 : ∀ (vs : Array Value) (w : World), (callFunc 71 vs).run CX.P w = .ok (.enter 71 vs) w := enters Try.func71 hb71 (by kernel_rfl)
theorem hb72 : Try.f72.body = some code72 := by kernel_rfl
theorem en72 : ∀ (vs : Array Value) (w : World), (callFunc 72 vs).run CX.P w = .ok (.enter 72 vs) w := enters Try.func72 hb72 (by kernel_rfl)
theorem hb73 : Try.f73.body = some code73 := by kernel_rfl
theorem en73 : ∀ (vs : Array Value) (w : World), (callFunc 73 vs).run CX.P w = .ok (.enter 73 vs) w := enters Try.func73 hb73 (by kernel_rfl)
theorem hb74 : Try.f74.body = some code74 := by kernel_rfl
theorem en74 : ∀ (vs : Array Value) (w : World), (callFunc 74 vs).run CX.P w = .ok (.enter 74 vs) w := enters Try.func74 hb74 (by kernel_rfl)
theorem hb75 : Try.f75.body = some code75 := by kernel_rfl
theorem en75 : ∀ (vs : Array Value) (w : World), (callFunc 75 vs).run CX.P w = .ok (.enter 75 vs) w := enters Try.func75 hb75 (by kernel_rfl)
theorem hb76 : Try.f76.body = some code76 := by kernel_rfl
theorem en76 : ∀ (vs : Array Value) (w : World), (callFunc 76 vs).run CX.P w = .ok (.enter 76 vs) w := enters Try.func76 hb76 (by kernel_rfl)
theorem hb77 : Try.f77.body = some code77 := by kernel_rfl
theorem en77 : ∀ (vs : Array Value) (w : World), (callFunc 77 vs).run CX.P w = .ok (.enter 77 vs) w := enters Try.func77 hb77 (by kernel_rfl)
theorem hb78 : Try.f78.body = some code78 := by kernel_rfl
theorem en78 : ∀ (vs : Array Value) (w : World), (callFunc 78 vs).run CX.P w = .ok (.enter 78 vs) w := enters Try.func78 hb78 (by kernel_rfl)
theorem hb79 : Try.f79.body = some code79 := by kernel_rfl
theorem en79 : ∀ (vs : Array Value) (w : World), (callFunc 79 vs).run CX.P w = .ok (.enter 79 vs) w := enters Try.func79 hb79 (by kernel_rfl)
theorem hb80 : Try.f80.body = some code80 := by kernel_rfl
theorem en80 : ∀ (vs : Array Value) (w : World), (callFunc 80 vs).run CX.P w = .ok (.enter 80 vs) w := enters Try.func80 hb80 (by kernel_rfl)
theorem hb81 : Try.f81.body = some code81 := by kernel_rfl
theorem en81 : ∀ (vs : Array Value) (w : World), (callFunc 81 vs).run CX.P w = .ok (.enter 81 vs) w := enters Try.func81 hb81 (by kernel_rfl)
theorem hb82 : Try.f82.body = some code82 := by kernel_rfl
theorem en82 : ∀ (vs : Array Value) (w : World), (callFunc 82 vs).run CX.P w = .ok (.enter 82 vs) w := enters Try.func82 hb82 (by kernel_rfl)
theorem hb83 : Try.f83.body = some code83 := by kernel_rfl
theorem en83 : ∀ (vs : Array Value) (w : World), (callFunc 83 vs).run CX.P w = .ok (.enter 83 vs) w := enters Try.func83 hb83 (by kernel_rfl)
theorem hb84 : Try.f84.body = some code84 := by kernel_rfl
theorem en84 : ∀ (vs : Array Value) (w : World), (callFunc 84 vs).run CX.P w = .ok (.enter 84 vs) w := enters Try.func84 hb84 (by kernel_rfl)
theorem hb85 : Try.f85.body = some code85 := by kernel_rfl
theorem en85 : ∀ (vs : Array Value) (w : World), (callFunc 85 vs).run CX.P w = .ok (.enter 85 vs) w := enters Try.func85 hb85 (by kernel_rfl)
theorem hb86 : Try.f86.body = some code86 := by kernel_rfl
theorem en86 : ∀ (vs : Array Value) (w : World), (callFunc 86 vs).run CX.P w = .ok (.enter 86 vs) w := enters Try.func86 hb86 (by kernel_rfl)
theorem hb87 : Try.f87.body = some code87 := by kernel_rfl
theorem en87 : ∀ (vs : Array Value) (w : World), (callFunc 87 vs).run CX.P w = .ok (.enter 87 vs) w := enters Try.func87 hb87 (by kernel_rfl)
theorem hb88 : Try.f88.body = some code88 := by kernel_rfl
theorem en88 : ∀ (vs : Array Value) (w : World), (callFunc 88 vs).run CX.P w = .ok (.enter 88 vs) w := enters Try.func88 hb88 (by kernel_rfl)
theorem hb89 : Try.f89.body = some code89 := by kernel_rfl
theorem en89 : ∀ (vs : Array Value) (w : World), (callFunc 89 vs).run CX.P w = .ok (.enter 89 vs) w := enters Try.func89 hb89 (by kernel_rfl)
theorem hb90 : Try.f90.body = some code90 := by kernel_rfl
theorem en90 : ∀ (vs : Array Value) (w : World), (callFunc 90 vs).run CX.P w = .ok (.enter 90 vs) w := enters Try.func90 hb90 (by kernel_rfl)
theorem hb91 : Try.f91.body = some code91 := by kernel_rfl
theorem en91 : ∀ (vs : Array Value) (w : World), (callFunc 91 vs).run CX.P w = .ok (.enter 91 vs) w := enters Try.func91 hb91 (by kernel_rfl)
theorem hb92 : Try.f92.body = some code92 := by kernel_rfl
theorem en92 : ∀ (vs : Array Value) (w : World), (callFunc 92 vs).run CX.P w = .ok (.enter 92 vs) w := enters Try.func92 hb92 (by kernel_rfl)
theorem hb93 : Try.f93.body = some code93 := by kernel_rfl
theorem en93 : ∀ (vs : Array Value) (w : World), (callFunc 93 vs).run CX.P w = .ok (.enter 93 vs) w := enters Try.func93 hb93 (by kernel_rfl)
theorem hb94 : Try.f94.body = some code94 := by kernel_rfl
theorem en94 : ∀ (vs : Array Value) (w : World), (callFunc 94 vs).run CX.P w = .ok (.enter 94 vs) w := enters Try.func94 hb94 (by kernel_rfl)
theorem hb95 : Try.f95.body = some code95 := by kernel_rfl
theorem en95 : ∀ (vs : Array Value) (w : World), (callFunc 95 vs).run CX.P w = .ok (.enter 95 vs) w := enters Try.func95 hb95 (by kernel_rfl)
theorem hb96 : Try.f96.body = some code96 := by kernel_rfl
theorem en96 : ∀ (vs : Array Value) (w : World), (callFunc 96 vs).run CX.P w = .ok (.enter 96 vs) w := enters Try.func96 hb96 (by kernel_rfl)
end Go.Proofs.Ytnfmdenclkdmbaa

namespace Go.Proofs.Ytnfmdenclkdmbaa
open Go Go.Eng
set_option maxRecDepth 100000

/-! ### F33: ceiling/num.unary -/
inductive R33 where
  | r (x0 : Bool)
abbrev TF33 := Int → Option R33
def sgF33 : LSh := ⟨[(0, .one (.cell (.int .u8)))], []⟩
def FFF33 (Fx : TF33) (s : St) : Option R33 := Fx ((Eng.look s.env 0).toI)
def valF33 (o : R33) : AV := match o with | .r x0 => .bool x0
def memF33 (o : R33) : List Blk := match o with | .r x0 => []
def elF33 {R : Type} (o : R33) (k : AV → List Blk → Option R) : Option R := match o with | .r x0 => k (.bool x0) []
def RecOkF33 (Fx : TF33) : Prop := ∀ lk M o, FFF33 Fx (canS sgF33 lk M) = some o → FCalls CX 33 0 (argsE 1 (canS sgF33 lk M).env) (canS sgF33 lk M).mem (valF33 o) (memF33 o)
noncomputable def csF33 (N : Nat) (R : Type) : List (CE R) := []
theorem hcsF33 (N : Nat) (R : Type) : AllE (CeOk CX) (csF33 N R) := trivial
noncomputable def T33ur1 (N : Nat) (R : Type) : LTab R := mkTab ⟨9, 511⟩ (csF33 N R) (noY) [] [] []
theorem okT33ur1 (N : Nat) (R : Type) : (T33ur1 N R).Ok CX code33 := mkTab_ok (hcsF33 N R) (noY_ok) (trivial) (trivial) (trivial)
def rsF33 : List ResultVar := [.tmp 2]
def F33 : Nat → TF33
  | 0 => fun _ => none
  | N + 1 => fun x0 =>
    match decide ((16 : Int) ≤ x0) with
    | true =>
      some (.r (decide (x0 ≤ (18 : Int))))
    | false =>
      some (.r false)
def xRF33 : XSh R33 := ⟨[], ⟨[(0, .one (.cell (.bool)))], []⟩, fun _ => [], fun s => .r ((Eng.look s.env 0).toB)⟩
theorem fsF33 : ∀ (N : Nat) (lk : Nat → AV) (M : List Blk), FFF33 (F33 (N + 1)) (canS sgF33 lk M) = evfn CX (T33ur1 N R33) code33 rsF33 (argsE 1 (canS sgF33 lk M).env) (canS sgF33 lk M).mem (goR CX 0 (fun _ => some xRF33)) := by intro N lk M; kernel_rfl
theorem soundF33 : ∀ N, RecOkF33 (F33 N)
  | 0, lk, M, o, h => by cases h
  | N + 1, lk, M, o, h => fn_sound hX (okT33ur1 N R33) Try.func33 hb33 rfl en33 (by kernel_rfl) (ys := fun _ => some xRF33) (fun st y h => by injection h with h; subst h; exact fun lk M => ⟨rfl, rfl⟩) ((fsF33 N lk M).symm.trans h)
def cvce33n0 : List Cv := []
def selce33n0 : St → List Nat := fun _ => []
noncomputable def ce33n0 (Fx : TF33) (R : Type) (test : List AV → List Blk → Bool) : CE R := ⟨33, test, fun args M => some (selce33n0 ⟨argEnv 0 args, M, [], .unk⟩), fun args M k => tst (Nat.beq args.length 1) (callFn CX 0 cvce33n0 sgF33 selce33n0 (FFF33 Fx) elF33 args M k)⟩
theorem okce33n0 (Fx : TF33) (h : RecOkF33 Fx) (R : Type) (test : List AV → List Blk → Bool) : CeOk CX (ce33n0 Fx R test) := ce_ok hX (fun o k => by cases o; rfl) h en33 (fun args M ids h => by injection h with h; exact ⟨rfl, h.symm⟩)
end Go.Proofs.Ytnfmdenclkdmbaa

namespace Go.Proofs.Ytnfmdenclkdmbaa
open Go Go.Eng
set_option maxRecDepth 100000

/-! ### F14: ceiling/num.In -/
inductive R14 where
  | r (x0 : Bool)
abbrev TF14 := Int → Option R14
def sgF14 : LSh := ⟨[(0, .one (.cell (.int .i64)))], []⟩
def FFF14 (Fx : TF14) (s : St) : Option R14 := Fx ((Eng.look s.env 0).toI)
def valF14 (o : R14) : AV := match o with | .r x0 => .bool x0
def memF14 (o : R14) : List Blk := match o with | .r x0 => []
def elF14 {R : Type} (o : R14) (k : AV → List Blk → Option R) : Option R := match o with | .r x0 => k (.bool x0) []
def RecOkF14 (Fx : TF14) : Prop := ∀ lk M o, FFF14 Fx (canS sgF14 lk M) = some o → FCalls CX 14 0 (argsE 1 (canS sgF14 lk M).env) (canS sgF14 lk M).mem (valF14 o) (memF14 o)
noncomputable def csF14 (N : Nat) (R : Type) : List (CE R) := []
theorem hcsF14 (N : Nat) (R : Type) : AllE (CeOk CX) (csF14 N R) := trivial
noncomputable def T14ur1 (N : Nat) (R : Type) : LTab R := mkTab ⟨8, 255⟩ (csF14 N R) (noY) [] [] []
theorem okT14ur1 (N : Nat) (R : Type) : (T14ur1 N R).Ok CX code14 := mkTab_ok (hcsF14 N R) (noY_ok) (trivial) (trivial) (trivial)
def rsF14 : List ResultVar := [.tmp 2]
def F14 : Nat → TF14
  | 0 => fun _ => none
  | N + 1 => fun x0 =>
    some (.r (x0 == (IntKind.wrap .i64 (IntKind.wrap .i32 x0))))
def xRF14 : XSh R14 := ⟨[], ⟨[(0, .one (.cell (.bool)))], []⟩, fun _ => [], fun s => .r ((Eng.look s.env 0).toB)⟩
theorem fsF14 : ∀ (N : Nat) (lk : Nat → AV) (M : List Blk), FFF14 (F14 (N + 1)) (canS sgF14 lk M) = evfn CX (T14ur1 N R14) code14 rsF14 (argsE 1 (canS sgF14 lk M).env) (canS sgF14 lk M).mem (goR CX 0 (fun _ => some xRF14)) := by intro N lk M; kernel_rfl
theorem soundF14 : ∀ N, RecOkF14 (F14 N)
  | 0, lk, M, o, h => by cases h
  | N + 1, lk, M, o, h => fn_sound hX (okT14ur1 N R14) Try.func14 hb14 rfl en14 (by kernel_rfl) (ys := fun _ => some xRF14) (fun st y h => by injection h with h; subst h; exact fun lk M => ⟨rfl, rfl⟩) ((fsF14 N lk M).symm.trans h)
def cvce14n0 : List Cv := []
def selce14n0 : St → List Nat := fun _ => []
noncomputable def ce14n0 (Fx : TF14) (R : Type) (test : List AV → List Blk → Bool) : CE R := ⟨14, test, fun args M => some (selce14n0 ⟨argEnv 0 args, M, [], .unk⟩), fun args M k => tst (Nat.beq args.length 1) (callFn CX 0 cvce14n0 sgF14 selce14n0 (FFF14 Fx) elF14 args M k)⟩
theorem okce14n0 (Fx : TF14) (h : RecOkF14 Fx) (R : Type) (test : List AV → List Blk → Bool) : CeOk CX (ce14n0 Fx R test) := ce_ok hX (fun o k => by cases o; rfl) h en14 (fun args M ids h => by injection h with h; exact ⟨rfl, h.symm⟩)
end Go.Proofs.Ytnfmdenclkdmbaa

namespace Go.Proofs.Ytnfmdenclkdmbaa
open Go Go.Eng
set_option maxRecDepth 100000

/-! ### F67: ceiling/num.always -/
inductive R67 where
  | r
abbrev TF67 := Option R67
def sgF67 : LSh := ⟨[(0, .one (.fn 68))], []⟩
def FFF67 (Fx : TF67) (s : St) : Option R67 := Fx 
def valF67 (o : R67) : AV := match o with | .r => .clos 94 [] [.ptr 0 0 0]
def memF67 (o : R67) : List Blk := match o with | .r => [.var [.any] [.clos 68 [] []]]
def elF67 {R : Type} (o : R67) (k : AV → List Blk → Option R) : Option R := match o with | .r => k (.clos 94 [] [.ptr 0 0 0]) [.var [.any] [.clos 68 [] []]]
def RecOkF67 (Fx : TF67) : Prop := ∀ lk M o, FFF67 Fx (canS sgF67 lk M) = some o → FCalls CX 67 0 (argsE 1 (canS sgF67 lk M).env) (canS sgF67 lk M).mem (valF67 o) (memF67 o)
noncomputable def csF67 (N : Nat) (R : Type) : List (CE R) := []
theorem hcsF67 (N : Nat) (R : Type) : AllE (CeOk CX) (csF67 N R) := trivial
noncomputable def T67ur1 (N : Nat) (R : Type) : LTab R := mkTab ⟨4, 15⟩ (csF67 N R) (noY) [] [] []
theorem okT67ur1 (N : Nat) (R : Type) : (T67ur1 N R).Ok CX code67 := mkTab_ok (hcsF67 N R) (noY_ok) (trivial) (trivial) (trivial)
def rsF67 : List ResultVar := [.tmp 2]
def F67 : Nat → TF67
  | 0 => none
  | N + 1 => 
    some .r
def xRF67 : XSh R67 := ⟨[], ⟨[(0, .one (.cl 94 [(0, 0, 0)]))], [.var [.any] [.fn 68]]⟩, fun st => [((Eng.look st.env 0).caps.getD 0 .top).id], fun s => .r ⟩
theorem fsF67 : ∀ (N : Nat) (lk : Nat → AV) (M : List Blk), FFF67 (F67 (N + 1)) (canS sgF67 lk M) = evfn CX (T67ur1 N R67) code67 rsF67 (argsE 1 (canS sgF67 lk M).env) (canS sgF67 lk M).mem (goR CX 0 (fun _ => some xRF67)) := by intro N lk M; kernel_rfl
theorem soundF67 : ∀ N, RecOkF67 (F67 N)
  | 0, lk, M, o, h => by cases h
  | N + 1, lk, M, o, h => fn_sound hX (okT67ur1 N R67) Try.func67 hb67 rfl en67 (by kernel_rfl) (ys := fun _ => some xRF67) (fun st y h => by injection h with h; subst h; exact fun lk M => ⟨rfl, rfl⟩) ((fsF67 N lk M).symm.trans h)
def cvce67n0 : List Cv := []
def selce67n0 : St → List Nat := fun _ => []
noncomputable def ce67n0 (Fx : TF67) (R : Type) (test : List AV → List Blk → Bool) : CE R := ⟨67, test, fun args M => some (selce67n0 ⟨argEnv 0 args, M, [], .unk⟩), fun args M k => tst (Nat.beq args.length 1) (callFn CX 0 cvce67n0 sgF67 selce67n0 (FFF67 Fx) elF67 args M k)⟩
theorem okce67n0 (Fx : TF67) (h : RecOkF67 Fx) (R : Type) (test : List AV → List Blk → Bool) : CeOk CX (ce67n0 Fx R test) := ce_ok hX (fun o k => by cases o; rfl) h en67 (fun args M ids h => by injection h with h; exact ⟨rfl, h.symm⟩)
end Go.Proofs.Ytnfmdenclkdmbaa

namespace Go.Proofs.Ytnfmdenclkdmbaa
open Go Go.Eng
set_option maxRecDepth 100000

/-! ### F67v1: ceiling/num.always -/
inductive R67v1 where
  | r
abbrev TF67v1 := Option R67v1
def sgF67v1 : LSh := ⟨[(0, .one (.fn 69))], []⟩
def FFF67v1 (Fx : TF67v1) (s : St) : Option R67v1 := Fx 
def valF67v1 (o : R67v1) : AV := match o with | .r => .clos 94 [] [.ptr 0 0 0]
def memF67v1 (o : R67v1) : List Blk := match o with | .r => [.var [.any] [.clos 69 [] []]]
def elF67v1 {R : Type} (o : R67v1) (k : AV → List Blk → Option R) : Option R := match o with | .r => k (.clos 94 [] [.ptr 0 0 0]) [.var [.any] [.clos 69 [] []]]
def RecOkF67v1 (Fx : TF67v1) : Prop := ∀ lk M o, FFF67v1 Fx (canS sgF67v1 lk M) = some o → FCalls CX 67 0 (argsE 1 (canS sgF67v1 lk M).env) (canS sgF67v1 lk M).mem (valF67v1 o) (memF67v1 o)
noncomputable def csF67v1 (N : Nat) (R : Type) : List (CE R) := []
theorem hcsF67v1 (N : Nat) (R : Type) : AllE (CeOk CX) (csF67v1 N R) := trivial
noncomputable def T67v1ur1 (N : Nat) (R : Type) : LTab R := mkTab ⟨4, 15⟩ (csF67v1 N R) (noY) [] [] []
theorem okT67v1ur1 (N : Nat) (R : Type) : (T67v1ur1 N R).Ok CX code67 := mkTab_ok (hcsF67v1 N R) (noY_ok) (trivial) (trivial) (trivial)
def rsF67v1 : List ResultVar := [.tmp 2]
def F67v1 : Nat → TF67v1
  | 0 => none
  | N + 1 => 
    some .r
def xRF67v1 : XSh R67v1 := ⟨[], ⟨[(0, .one (.cl 94 [(0, 0, 0)]))], [.var [.any] [.fn 69]]⟩, fun st => [((Eng.look st.env 0).caps.getD 0 .top).id], fun s => .r ⟩
theorem fsF67v1 : ∀ (N : Nat) (lk : Nat → AV) (M : List Blk), FFF67v1 (F67v1 (N + 1)) (canS sgF67v1 lk M) = evfn CX (T67v1ur1 N R67v1) code67 rsF67v1 (argsE 1 (canS sgF67v1 lk M).env) (canS sgF67v1 lk M).mem (goR CX 0 (fun _ => some xRF67v1)) := by intro N lk M; kernel_rfl
theorem soundF67v1 : ∀ N, RecOkF67v1 (F67v1 N)
  | 0, lk, M, o, h => by cases h
  | N + 1, lk, M, o, h => fn_sound hX (okT67v1ur1 N R67v1) Try.func67 hb67 rfl en67 (by kernel_rfl) (ys := fun _ => some xRF67v1) (fun st y h => by injection h with h; subst h; exact fun lk M => ⟨rfl, rfl⟩) ((fsF67v1 N lk M).symm.trans h)
def cvce67v1n0 : List Cv := []
def selce67v1n0 : St → List Nat := fun _ => []
noncomputable def ce67v1n0 (Fx : TF67v1) (R : Type) (test : List AV → List Blk → Bool) : CE R := ⟨67, test, fun args M => some (selce67v1n0 ⟨argEnv 0 args, M, [], .unk⟩), fun args M k => tst (Nat.beq args.length 1) (callFn CX 0 cvce67v1n0 sgF67v1 selce67v1n0 (FFF67v1 Fx) elF67v1 args M k)⟩
theorem okce67v1n0 (Fx : TF67v1) (h : RecOkF67v1 Fx) (R : Type) (test : List AV → List Blk → Bool) : CeOk CX (ce67v1n0 Fx R test) := ce_ok hX (fun o k => by cases o; rfl) h en67 (fun args M ids h => by injection h with h; exact ⟨rfl, h.symm⟩)
end Go.Proofs.Ytnfmdenclkdmbaa

namespace Go.Proofs.Ytnfmdenclkdmbaa
open Go Go.Eng
set_option maxRecDepth 100000

/-! ### F67v2: ceiling/num.always -/
inductive R67v2 where
  | r
abbrev TF67v2 := Option R67v2
def sgF67v2 : LSh := ⟨[(0, .one (.fn 70))], []⟩
def FFF67v2 (Fx : TF67v2) (s : St) : Option R67v2 := Fx 
def valF67v2 (o : R67v2) : AV := match o with | .r => .clos 94 [] [.ptr 0 0 0]
def memF67v2 (o : R67v2) : List Blk := match o with | .r => [.var [.any] [.clos 70 [] []]]
def elF67v2 {R : Type} (o : R67v2) (k : AV → List Blk → Option R) : Option R := match o with | .r => k (.clos 94 [] [.ptr 0 0 0]) [.var [.any] [.clos 70 [] []]]
def RecOkF67v2 (Fx : TF67v2) : Prop := ∀ lk M o, FFF67v2 Fx (canS sgF67v2 lk M) = some o → FCalls CX 67 0 (argsE 1 (canS sgF67v2 lk M).env) (canS sgF67v2 lk M).mem (valF67v2 o) (memF67v2 o)
noncomputable def csF67v2 (N : Nat) (R : Type) : List (CE R) := []
theorem hcsF67v2 (N : Nat) (R : Type) : AllE (CeOk CX) (csF67v2 N R) := trivial
noncomputable def T67v2ur1 (N : Nat) (R : Type) : LTab R := mkTab ⟨4, 15⟩ (csF67v2 N R) (noY) [] [] []
theorem okT67v2ur1 (N : Nat) (R : Type) : (T67v2ur1 N R).Ok CX code67 := mkTab_ok (hcsF67v2 N R) (noY_ok) (trivial) (trivial) (trivial)
def rsF67v2 : List ResultVar := [.tmp 2]
def F67v2 : Nat → TF67v2
  | 0 => none
  | N + 1 => 
    some .r
def xRF67v2 : XSh R67v2 := ⟨[], ⟨[(0, .one (.cl 94 [(0, 0, 0)]))], [.var [.any] [.fn 70]]⟩, fun st => [((Eng.look st.env 0).caps.getD 0 .top).id], fun s => .r ⟩
theorem fsF67v2 : ∀ (N : Nat) (lk : Nat → AV) (M : List Blk), FFF67v2 (F67v2 (N + 1)) (canS sgF67v2 lk M) = evfn CX (T67v2ur1 N R67v2) code67 rsF67v2 (argsE 1 (canS sgF67v2 lk M).env) (canS sgF67v2 lk M).mem (goR CX 0 (fun _ => some xRF67v2)) := by intro N lk M; kernel_rfl
theorem soundF67v2 : ∀ N, RecOkF67v2 (F67v2 N)
  | 0, lk, M, o, h => by cases h
  | N + 1, lk, M, o, h => fn_sound hX (okT67v2ur1 N R67v2) Try.func67 hb67 rfl en67 (by kernel_rfl) (ys := fun _ => some xRF67v2) (fun st y h => by injection h with h; subst h; exact fun lk M => ⟨rfl, rfl⟩) ((fsF67v2 N lk M).symm.trans h)
def cvce67v2n0 : List Cv := []
def selce67v2n0 : St → List Nat := fun _ => []
noncomputable def ce67v2n0 (Fx : TF67v2) (R : Type) (test : List AV → List Blk → Bool) : CE R := ⟨67, test, fun args M => some (selce67v2n0 ⟨argEnv 0 args, M, [], .unk⟩), fun args M k => tst (Nat.beq args.length 1) (callFn CX 0 cvce67v2n0 sgF67v2 selce67v2n0 (FFF67v2 Fx) elF67v2 args M k)⟩
theorem okce67v2n0 (Fx : TF67v2) (h : RecOkF67v2 Fx) (R : Type) (test : List AV → List Blk → Bool) : CeOk CX (ce67v2n0 Fx R test) := ce_ok hX (fun o k => by cases o; rfl) h en67 (fun args M ids h => by injection h with h; exact ⟨rfl, h.symm⟩)
end Go.Proofs.Ytnfmdenclkdmbaa

namespace Go.Proofs.Ytnfmdenclkdmbaa
open Go Go.Eng
set_option maxRecDepth 100000

/-! ### F71: ceiling/num.division -/
inductive R71 where
  | r
abbrev TF71 := Option R71
def sgF71 : LSh := ⟨[(0, .one (.fn 72))], []⟩
def FFF71 (Fx : TF71) (s : St) : Option R71 := Fx 
def valF71 (o : R71) : AV := match o with | .r => .clos 95 [] [.ptr 0 0 0]
def memF71 (o : R71) : List Blk := match o with | .r => [.var [.any] [.clos 72 [] []]]
def elF71 {R : Type} (o : R71) (k : AV → List Blk → Option R) : Option R := match o with | .r => k (.clos 95 [] [.ptr 0 0 0]) [.var [.any] [.clos 72 [] []]]
def RecOkF71 (Fx : TF71) : Prop := ∀ lk M o, FFF71 Fx (canS sgF71 lk M) = some o → FCalls CX 71 0 (argsE 1 (canS sgF71 lk M).env) (canS sgF71 lk M).mem (valF71 o) (memF71 o)
noncomputable def csF71 (N : Nat) (R : Type) : List (CE R) := []
theorem hcsF71 (N : Nat) (R : Type) : AllE (CeOk CX) (csF71 N R) := trivial
noncomputable def T71ur1 (N : Nat) (R : Type) : LTab R := mkTab ⟨4, 15⟩ (csF71 N R) (noY) [] [] []
theorem okT71ur1 (N : Nat) (R : Type) : (T71ur1 N R).Ok CX code71 := mkTab_ok (hcsF71 N R) (noY_ok) (trivial) (trivial) (trivial)
def rsF71 : List ResultVar := [.tmp 2]
def F71 : Nat → TF71
  | 0 => none
  | N + 1 => 
    some .r
def xRF71 : XSh R71 := ⟨[], ⟨[(0, .one (.cl 95 [(0, 0, 0)]))], [.var [.any] [.fn 72]]⟩, fun st => [((Eng.look st.env 0).caps.getD 0 .top).id], fun s => .r ⟩
theorem fsF71 : ∀ (N : Nat) (lk : Nat → AV) (M : List Blk), FFF71 (F71 (N + 1)) (canS sgF71 lk M) = evfn CX (T71ur1 N R71) code71 rsF71 (argsE 1 (canS sgF71 lk M).env) (canS sgF71 lk M).mem (goR CX 0 (fun _ => some xRF71)) := by intro N lk M; kernel_rfl
theorem soundF71 : ∀ N, RecOkF71 (F71 N)
  | 0, lk, M, o, h => by cases h
  | N + 1, lk, M, o, h => fn_sound hX (okT71ur1 N R71) Try.func71 hb71 rfl en71 (by kernel_rfl) (ys := fun _ => some xRF71) (fun st y h => by injection h with h; subst h; exact fun lk M => ⟨rfl, rfl⟩) ((fsF71 N lk M).symm.trans h)
def cvce71n0 : List Cv := []
def selce71n0 : St → List Nat := fun _ => []
noncomputable def ce71n0 (Fx : TF71) (R : Type) (test : List AV → List Blk → Bool) : CE R := ⟨71, test, fun args M => some (selce71n0 ⟨argEnv 0 args, M, [], .unk⟩), fun args M k => tst (Nat.beq args.length 1) (callFn CX 0 cvce71n0 sgF71 selce71n0 (FFF71 Fx) elF71 args M k)⟩
theorem okce71n0 (Fx : TF71) (h : RecOkF71 Fx) (R : Type) (test : List AV → List Blk → Bool) : CeOk CX (ce71n0 Fx R test) := ce_ok hX (fun o k => by cases o; rfl) h en71 (fun args M ids h => by injection h with h; exact ⟨rfl, h.symm⟩)
end Go.Proofs.Ytnfmdenclkdmbaa

namespace Go.Proofs.Ytnfmdenclkdmbaa
open Go Go.Eng
set_option maxRecDepth 100000

/-! ### F71v1: ceiling/num.division -/
inductive R71v1 where
  | r
abbrev TF71v1 := Option R71v1
def sgF71v1 : LSh := ⟨[(0, .one (.fn 73))], []⟩
def FFF71v1 (Fx : TF71v1) (s : St) : Option R71v1 := Fx 
def valF71v1 (o : R71v1) : AV := match o with | .r => .clos 95 [] [.ptr 0 0 0]
def memF71v1 (o : R71v1) : List Blk := match o with | .r => [.var [.any] [.clos 73 [] []]]
def elF71v1 {R : Type} (o : R71v1) (k : AV → List Blk → Option R) : Option R := match o with | .r => k (.clos 95 [] [.ptr 0 0 0]) [.var [.any] [.clos 73 [] []]]
def RecOkF71v1 (Fx : TF71v1) : Prop := ∀ lk M o, FFF71v1 Fx (canS sgF71v1 lk M) = some o → FCalls CX 71 0 (argsE 1 (canS sgF71v1 lk M).env) (canS sgF71v1 lk M).mem (valF71v1 o) (memF71v1 o)
noncomputable def csF71v1 (N : Nat) (R : Type) : List (CE R) := []
theorem hcsF71v1 (N : Nat) (R : Type) : AllE (CeOk CX) (csF71v1 N R) := trivial
noncomputable def T71v1ur1 (N : Nat) (R : Type) : LTab R := mkTab ⟨4, 15⟩ (csF71v1 N R) (noY) [] [] []
theorem okT71v1ur1 (N : Nat) (R : Type) : (T71v1ur1 N R).Ok CX code71 := mkTab_ok (hcsF71v1 N R) (noY_ok) (trivial) (trivial) (trivial)
def rsF71v1 : List ResultVar := [.tmp 2]
def F71v1 : Nat → TF71v1
  | 0 => none
  | N + 1 => 
    some .r
def xRF71v1 : XSh R71v1 := ⟨[], ⟨[(0, .one (.cl 95 [(0, 0, 0)]))], [.var [.any] [.fn 73]]⟩, fun st => [((Eng.look st.env 0).caps.getD 0 .top).id], fun s => .r ⟩
theorem fsF71v1 : ∀ (N : Nat) (lk : Nat → AV) (M : List Blk), FFF71v1 (F71v1 (N + 1)) (canS sgF71v1 lk M) = evfn CX (T71v1ur1 N R71v1) code71 rsF71v1 (argsE 1 (canS sgF71v1 lk M).env) (canS sgF71v1 lk M).mem (goR CX 0 (fun _ => some xRF71v1)) := by intro N lk M; kernel_rfl
theorem soundF71v1 : ∀ N, RecOkF71v1 (F71v1 N)
  | 0, lk, M, o, h => by cases h
  | N + 1, lk, M, o, h => fn_sound hX (okT71v1ur1 N R71v1) Try.func71 hb71 rfl en71 (by kernel_rfl) (ys := fun _ => some xRF71v1) (fun st y h => by injection h with h; subst h; exact fun lk M => ⟨rfl, rfl⟩) ((fsF71v1 N lk M).symm.trans h)
def cvce71v1n0 : List Cv := []
def selce71v1n0 : St → List Nat := fun _ => []
noncomputable def ce71v1n0 (Fx : TF71v1) (R : Type) (test : List AV → List Blk → Bool) : CE R := ⟨71, test, fun args M => some (selce71v1n0 ⟨argEnv 0 args, M, [], .unk⟩), fun args M k => tst (Nat.beq args.length 1) (callFn CX 0 cvce71v1n0 sgF71v1 selce71v1n0 (FFF71v1 Fx) elF71v1 args M k)⟩
theorem okce71v1n0 (Fx : TF71v1) (h : RecOkF71v1 Fx) (R : Type) (test : List AV → List Blk → Bool) : CeOk CX (ce71v1n0 Fx R test) := ce_ok hX (fun o k => by cases o; rfl) h en71 (fun args M ids h => by injection h with h; exact ⟨rfl, h.symm⟩)
end Go.Proofs.Ytnfmdenclkdmbaa

namespace Go.Proofs.Ytnfmdenclkdmbaa
open Go Go.Eng
set_option maxRecDepth 100000

/-! ### F71v2: ceiling/num.division -/
inductive R71v2 where
  | r
abbrev TF71v2 := Option R71v2
def sgF71v2 : LSh := ⟨[(0, .one (.fn 74))], []⟩
def FFF71v2 (Fx : TF71v2) (s : St) : Option R71v2 := Fx 
def valF71v2 (o : R71v2) : AV := match o with | .r => .clos 95 [] [.ptr 0 0 0]
def memF71v2 (o : R71v2) : List Blk := match o with | .r => [.var [.any] [.clos 74 [] []]]
def elF71v2 {R : Type} (o : R71v2) (k : AV → List Blk → Option R) : Option R := match o with | .r => k (.clos 95 [] [.ptr 0 0 0]) [.var [.any] [.clos 74 [] []]]
def RecOkF71v2 (Fx : TF71v2) : Prop := ∀ lk M o, FFF71v2 Fx (canS sgF71v2 lk M) = some o → FCalls CX 71 0 (argsE 1 (canS sgF71v2 lk M).env) (canS sgF71v2 lk M).mem (valF71v2 o) (memF71v2 o)
noncomputable def csF71v2 (N : Nat) (R : Type) : List (CE R) := []
theorem hcsF71v2 (N : Nat) (R : Type) : AllE (CeOk CX) (csF71v2 N R) := trivial
noncomputable def T71v2ur1 (N : Nat) (R : Type) : LTab R := mkTab ⟨4, 15⟩ (csF71v2 N R) (noY) [] [] []
theorem okT71v2ur1 (N : Nat) (R : Type) : (T71v2ur1 N R).Ok CX code71 := mkTab_ok (hcsF71v2 N R) (noY_ok) (trivial) (trivial) (trivial)
def rsF71v2 : List ResultVar := [.tmp 2]
def F71v2 : Nat → TF71v2
  | 0 => none
  | N + 1 => 
    some .r
def xRF71v2 : XSh R71v2 := ⟨[], ⟨[(0, .one (.cl 95 [(0, 0, 0)]))], [.var [.any] [.fn 74]]⟩, fun st => [((Eng.look st.env 0).caps.getD 0 .top).id], fun s => .r ⟩
theorem fsF71v2 : ∀ (N : Nat) (lk : Nat → AV) (M : List Blk), FFF71v2 (F71v2 (N + 1)) (canS sgF71v2 lk M) = evfn CX (T71v2ur1 N R71v2) code71 rsF71v2 (argsE 1 (canS sgF71v2 lk M).env) (canS sgF71v2 lk M).mem (goR CX 0 (fun _ => some xRF71v2)) := by intro N lk M; kernel_rfl
theorem soundF71v2 : ∀ N, RecOkF71v2 (F71v2 N)
  | 0, lk, M, o, h => by cases h
  | N + 1, lk, M, o, h => fn_sound hX (okT71v2ur1 N R71v2) Try.func71 hb71 rfl en71 (by kernel_rfl) (ys := fun _ => some xRF71v2) (fun st y h => by injection h with h; subst h; exact fun lk M => ⟨rfl, rfl⟩) ((fsF71v2 N lk M).symm.trans h)
def cvce71v2n0 : List Cv := []
def selce71v2n0 : St → List Nat := fun _ => []
noncomputable def ce71v2n0 (Fx : TF71v2) (R : Type) (test : List AV → List Blk → Bool) : CE R := ⟨71, test, fun args M => some (selce71v2n0 ⟨argEnv 0 args, M, [], .unk⟩), fun args M k => tst (Nat.beq args.length 1) (callFn CX 0 cvce71v2n0 sgF71v2 selce71v2n0 (FFF71v2 Fx) elF71v2 args M k)⟩
theorem okce71v2n0 (Fx : TF71v2) (h : RecOkF71v2 Fx) (R : Type) (test : List AV → List Blk → Bool) : CeOk CX (ce71v2n0 Fx R test) := ce_ok hX (fun o k => by cases o; rfl) h en71 (fun args M ids h => by injection h with h; exact ⟨rfl, h.symm⟩)
end Go.Proofs.Ytnfmdenclkdmbaa

namespace Go.Proofs.Ytnfmdenclkdmbaa
open Go Go.Eng
set_option maxRecDepth 100000

/-! ### F75: ceiling/num.relation -/
inductive R75 where
  | r
abbrev TF75 := Option R75
def sgF75 : LSh := ⟨[(0, .one (.fn 76))], []⟩
def FFF75 (Fx : TF75) (s : St) : Option R75 := Fx 
def valF75 (o : R75) : AV := match o with | .r => .clos 96 [] [.ptr 0 0 0]
def memF75 (o : R75) : List Blk := match o with | .r => [.var [.any] [.clos 76 [] []]]
def elF75 {R : Type} (o : R75) (k : AV → List Blk → Option R) : Option R := match o with | .r => k (.clos 96 [] [.ptr 0 0 0]) [.var [.any] [.clos 76 [] []]]
def RecOkF75 (Fx : TF75) : Prop := ∀ lk M o, FFF75 Fx (canS sgF75 lk M) = some o → FCalls CX 75 0 (argsE 1 (canS sgF75 lk M).env) (canS sgF75 lk M).mem (valF75 o) (memF75 o)
noncomputable def csF75 (N : Nat) (R : Type) : List (CE R) := []
theorem hcsF75 (N : Nat) (R : Type) : AllE (CeOk CX) (csF75 N R) := trivial
noncomputable def T75ur1 (N : Nat) (R : Type) : LTab R := mkTab ⟨4, 15⟩ (csF75 N R) (noY) [] [] []
theorem okT75ur1 (N : Nat) (R : Type) : (T75ur1 N R).Ok CX code75 := mkTab_ok (hcsF75 N R) (noY_ok) (trivial) (trivial) (trivial)
def rsF75 : List ResultVar := [.tmp 2]
def F75 : Nat → TF75
  | 0 => none
  | N + 1 => 
    some .r
def xRF75 : XSh R75 := ⟨[], ⟨[(0, .one (.cl 96 [(0, 0, 0)]))], [.var [.any] [.fn 76]]⟩, fun st => [((Eng.look st.env 0).caps.getD 0 .top).id], fun s => .r ⟩
theorem fsF75 : ∀ (N : Nat) (lk : Nat → AV) (M : List Blk), FFF75 (F75 (N + 1)) (canS sgF75 lk M) = evfn CX (T75ur1 N R75) code75 rsF75 (argsE 1 (canS sgF75 lk M).env) (canS sgF75 lk M).mem (goR CX 0 (fun _ => some xRF75)) := by intro N lk M; kernel_rfl
theorem soundF75 : ∀ N, RecOkF75 (F75 N)
  | 0, lk, M, o, h => by cases h
  | N + 1, lk, M, o, h => fn_sound hX (okT75ur1 N R75) Try.func75 hb75 rfl en75 (by kernel_rfl) (ys := fun _ => some xRF75) (fun st y h => by injection h with h; subst h; exact fun lk M => ⟨rfl, rfl⟩) ((fsF75 N lk M).symm.trans h)
def cvce75n0 : List Cv := []
def selce75n0 : St → List Nat := fun _ => []
noncomputable def ce75n0 (Fx : TF75) (R : Type) (test : List AV → List Blk → Bool) : CE R := ⟨75, test, fun args M => some (selce75n0 ⟨argEnv 0 args, M, [], .unk⟩), fun args M k => tst (Nat.beq args.length 1) (callFn CX 0 cvce75n0 sgF75 selce75n0 (FFF75 Fx) elF75 args M k)⟩
theorem okce75n0 (Fx : TF75) (h : RecOkF75 Fx) (R : Type) (test : List AV → List Blk → Bool) : CeOk CX (ce75n0 Fx R test) := ce_ok hX (fun o k => by cases o; rfl) h en75 (fun args M ids h => by injection h with h; exact ⟨rfl, h.symm⟩)
end Go.Proofs.Ytnfmdenclkdmbaa

namespace Go.Proofs.Ytnfmdenclkdmbaa
open Go Go.Eng
set_option maxRecDepth 100000

/-! ### F75v1: ceiling/num.relation -/
inductive R75v1 where
  | r
abbrev TF75v1 := Option R75v1
def sgF75v1 : LSh := ⟨[(0, .one (.fn 77))], []⟩
def FFF75v1 (Fx : TF75v1) (s : St) : Option R75v1 := Fx 
def valF75v1 (o : R75v1) : AV := match o with | .r => .clos 96 [] [.ptr 0 0 0]
def memF75v1 (o : R75v1) : List Blk := match o with | .r => [.var [.any] [.clos 77 [] []]]
def elF75v1 {R : Type} (o : R75v1) (k : AV → List Blk → Option R) : Option R := match o with | .r => k (.clos 96 [] [.ptr 0 0 0]) [.var [.any] [.clos 77 [] []]]
def RecOkF75v1 (Fx : TF75v1) : Prop := ∀ lk M o, FFF75v1 Fx (canS sgF75v1 lk M) = some o → FCalls CX 75 0 (argsE 1 (canS sgF75v1 lk M).env) (canS sgF75v1 lk M).mem (valF75v1 o) (memF75v1 o)
noncomputable def csF75v1 (N : Nat) (R : Type) : List (CE R) := []
theorem hcsF75v1 (N : Nat) (R : Type) : AllE (CeOk CX) (csF75v1 N R) := trivial
noncomputable def T75v1ur1 (N : Nat) (R : Type) : LTab R := mkTab ⟨4, 15⟩ (csF75v1 N R) (noY) [] [] []
theorem okT75v1ur1 (N : Nat) (R : Type) : (T75v1ur1 N R).Ok CX code75 := mkTab_ok (hcsF75v1 N R) (noY_ok) (trivial) (trivial) (trivial)
def rsF75v1 : List ResultVar := [.tmp 2]
def F75v1 : Nat → TF75v1
  | 0 => none
  | N + 1 => 
    some .r
def xRF75v1 : XSh R75v1 := ⟨[], ⟨[(0, .one (.cl 96 [(0, 0, 0)]))], [.var [.any] [.fn 77]]⟩, fun st => [((Eng.look st.env 0).caps.getD 0 .top).id], fun s => .r ⟩
theorem fsF75v1 : ∀ (N : Nat) (lk : Nat → AV) (M : List Blk), FFF75v1 (F75v1 (N + 1)) (canS sgF75v1 lk M) = evfn CX (T75v1ur1 N R75v1) code75 rsF75v1 (argsE 1 (canS sgF75v1 lk M).env) (canS sgF75v1 lk M).mem (goR CX 0 (fun _ => some xRF75v1)) := by intro N lk M; kernel_rfl
theorem soundF75v1 : ∀ N, RecOkF75v1 (F75v1 N)
  | 0, lk, M, o, h => by cases h
  | N + 1, lk, M, o, h => fn_sound hX (okT75v1ur1 N R75v1) Try.func75 hb75 rfl en75 (by kernel_rfl) (ys := fun _ => some xRF75v1) (fun st y h => by injection h with h; subst h; exact fun lk M => ⟨rfl, rfl⟩) ((fsF75v1 N lk M).symm.trans h)
def cvce75v1n0 : List Cv := []
def selce75v1n0 : St → List Nat := fun _ => []
noncomputable def ce75v1n0 (Fx : TF75v1) (R : Type) (test : List AV → List Blk → Bool) : CE R := ⟨75, test, fun args M => some (selce75v1n0 ⟨argEnv 0 args, M, [], .unk⟩), fun args M k => tst (Nat.beq args.length 1) (callFn CX 0 cvce75v1n0 sgF75v1 selce75v1n0 (FFF75v1 Fx) elF75v1 args M k)⟩
theorem okce75v1n0 (Fx : TF75v1) (h : RecOkF75v1 Fx) (R : Type) (test : List AV → List Blk → Bool) : CeOk CX (ce75v1n0 Fx R test) := ce_ok hX (fun o k => by cases o; rfl) h en75 (fun args M ids h => by injection h with h; exact ⟨rfl, h.symm⟩)
end Go.Proofs.Ytnfmdenclkdmbaa

namespace Go.Proofs.Ytnfmdenclkdmbaa
open Go Go.Eng
set_option maxRecDepth 100000

/-! ### F75v2: ceiling/num.relation -/
inductive R75v2 where
  | r
abbrev TF75v2 := Option R75v2
def sgF75v2 : LSh := ⟨[(0, .one (.fn 78))], []⟩
def FFF75v2 (Fx : TF75v2) (s : St) : Option R75v2 := Fx 
def valF75v2 (o : R75v2) : AV := match o with | .r => .clos 96 [] [.ptr 0 0 0]
def memF75v2 (o : R75v2) : List Blk := match o with | .r => [.var [.any] [.clos 78 [] []]]
def elF75v2 {R : Type} (o : R75v2) (k : AV → List Blk → Option R) : Option R := match o with | .r => k (.clos 96 [] [.ptr 0 0 0]) [.var [.any] [.clos 78 [] []]]
def RecOkF75v2 (Fx : TF75v2) : Prop := ∀ lk M o, FFF75v2 Fx (canS sgF75v2 lk M) = some o → FCalls CX 75 0 (argsE 1 (canS sgF75v2 lk M).env) (canS sgF75v2 lk M).mem (valF75v2 o) (memF75v2 o)
noncomputable def csF75v2 (N : Nat) (R : Type) : List (CE R) := []
theorem hcsF75v2 (N : Nat) (R : Type) : AllE (CeOk CX) (csF75v2 N R) := trivial
noncomputable def T75v2ur1 (N : Nat) (R : Type) : LTab R := mkTab ⟨4, 15⟩ (csF75v2 N R) (noY) [] [] []
theorem okT75v2ur1 (N : Nat) (R : Type) : (T75v2ur1 N R).Ok CX code75 := mkTab_ok (hcsF75v2 N R) (noY_ok) (trivial) (trivial) (trivial)
def rsF75v2 : List ResultVar := [.tmp 2]
def F75v2 : Nat → TF75v2
  | 0 => none
  | N + 1 => 
    some .r
def xRF75v2 : XSh R75v2 := ⟨[], ⟨[(0, .one (.cl 96 [(0, 0, 0)]))], [.var [.any] [.fn 78]]⟩, fun st => [((Eng.look st.env 0).caps.getD 0 .top).id], fun s => .r ⟩
theorem fsF75v2 : ∀ (N : Nat) (lk : Nat → AV) (M : List Blk), FFF75v2 (F75v2 (N + 1)) (canS sgF75v2 lk M) = evfn CX (T75v2ur1 N R75v2) code75 rsF75v2 (argsE 1 (canS sgF75v2 lk M).env) (canS sgF75v2 lk M).mem (goR CX 0 (fun _ => some xRF75v2)) := by intro N lk M; kernel_rfl
theorem soundF75v2 : ∀ N, RecOkF75v2 (F75v2 N)
  | 0, lk, M, o, h => by cases h
  | N + 1, lk, M, o, h => fn_sound hX (okT75v2ur1 N R75v2) Try.func75 hb75 rfl en75 (by kernel_rfl) (ys := fun _ => some xRF75v2) (fun st y h => by injection h with h; subst h; exact fun lk M => ⟨rfl, rfl⟩) ((fsF75v2 N lk M).symm.trans h)
def cvce75v2n0 : List Cv := []
def selce75v2n0 : St → List Nat := fun _ => []
noncomputable def ce75v2n0 (Fx : TF75v2) (R : Type) (test : List AV → List Blk → Bool) : CE R := ⟨75, test, fun args M => some (selce75v2n0 ⟨argEnv 0 args, M, [], .unk⟩), fun args M k => tst (Nat.beq args.length 1) (callFn CX 0 cvce75v2n0 sgF75v2 selce75v2n0 (FFF75v2 Fx) elF75v2 args M k)⟩
theorem okce75v2n0 (Fx : TF75v2) (h : RecOkF75v2 Fx) (R : Type) (test : List AV → List Blk → Bool) : CeOk CX (ce75v2n0 Fx R test) := ce_ok hX (fun o k => by cases o; rfl) h en75 (fun args M ids h => by injection h with h; exact ⟨rfl, h.symm⟩)
end Go.Proofs.Ytnfmdenclkdmbaa

namespace Go.Proofs.Ytnfmdenclkdmbaa
open Go Go.Eng
set_option maxRecDepth 100000

/-! ### F75v3: ceiling/num.relation -/
inductive R75v3 where
  | r
abbrev TF75v3 := Option R75v3
def sgF75v3 : LSh := ⟨[(0, .one (.fn 79))], []⟩
def FFF75v3 (Fx : TF75v3) (s : St) : Option R75v3 := Fx 
def valF75v3 (o : R75v3) : AV := match o with | .r => .clos 96 [] [.ptr 0 0 0]
def memF75v3 (o : R75v3) : List Blk := match o with | .r => [.var [.any] [.clos 79 [] []]]
def elF75v3 {R : Type} (o : R75v3) (k : AV → List Blk → Option R) : Option R := match o with | .r => k (.clos 96 [] [.ptr 0 0 0]) [.var [.any] [.clos 79 [] []]]
def RecOkF75v3 (Fx : TF75v3) : Prop := ∀ lk M o, FFF75v3 Fx (canS sgF75v3 lk M) = some o → FCalls CX 75 0 (argsE 1 (canS sgF75v3 lk M).env) (canS sgF75v3 lk M).mem (valF75v3 o) (memF75v3 o)
noncomputable def csF75v3 (N : Nat) (R : Type) : List (CE R) := []
theorem hcsF75v3 (N : Nat) (R : Type) : AllE (CeOk CX) (csF75v3 N R) := trivial
noncomputable def T75v3ur1 (N : Nat) (R : Type) : LTab R := mkTab ⟨4, 15⟩ (csF75v3 N R) (noY) [] [] []
theorem okT75v3ur1 (N : Nat) (R : Type) : (T75v3ur1 N R).Ok CX code75 := mkTab_ok (hcsF75v3 N R) (noY_ok) (trivial) (trivial) (trivial)
def rsF75v3 : List ResultVar := [.tmp 2]
def F75v3 : Nat → TF75v3
  | 0 => none
  | N + 1 => 
    some .r
def xRF75v3 : XSh R75v3 := ⟨[], ⟨[(0, .one (.cl 96 [(0, 0, 0)]))], [.var [.any] [.fn 79]]⟩, fun st => [((Eng.look st.env 0).caps.getD 0 .top).id], fun s => .r ⟩
theorem fsF75v3 : ∀ (N : Nat) (lk : Nat → AV) (M : List Blk), FFF75v3 (F75v3 (N + 1)) (canS sgF75v3 lk M) = evfn CX (T75v3ur1 N R75v3) code75 rsF75v3 (argsE 1 (canS sgF75v3 lk M).env) (canS sgF75v3 lk M).mem (goR CX 0 (fun _ => some xRF75v3)) := by intro N lk M; kernel_rfl
theorem soundF75v3 : ∀ N, RecOkF75v3 (F75v3 N)
  | 0, lk, M, o, h => by cases h
  | N + 1, lk, M, o, h => fn_sound hX (okT75v3ur1 N R75v3) Try.func75 hb75 rfl en75 (by kernel_rfl) (ys := fun _ => some xRF75v3) (fun st y h => by injection h with h; subst h; exact fun lk M => ⟨rfl, rfl⟩) ((fsF75v3 N lk M).symm.trans h)
def cvce75v3n0 : List Cv := []
def selce75v3n0 : St → List Nat := fun _ => []
noncomputable def ce75v3n0 (Fx : TF75v3) (R : Type) (test : List AV → List Blk → Bool) : CE R := ⟨75, test, fun args M => some (selce75v3n0 ⟨argEnv 0 args, M, [], .unk⟩), fun args M k => tst (Nat.beq args.length 1) (callFn CX 0 cvce75v3n0 sgF75v3 selce75v3n0 (FFF75v3 Fx) elF75v3 args M k)⟩
theorem okce75v3n0 (Fx : TF75v3) (h : RecOkF75v3 Fx) (R : Type) (test : List AV → List Blk → Bool) : CeOk CX (ce75v3n0 Fx R test) := ce_ok hX (fun o k => by cases o; rfl) h en75 (fun args M ids h => by injection h with h; exact ⟨rfl, h.symm⟩)
end Go.Proofs.Ytnfmdenclkdmbaa

namespace Go.Proofs.Ytnfmdenclkdmbaa
open Go Go.Eng
set_option maxRecDepth 100000

/-! ### F75v4: ceiling/num.relation -/
inductive R75v4 where
  | r
abbrev TF75v4 := Option R75v4
def sgF75v4 : LSh := ⟨[(0, .one (.fn 80))], []⟩
def FFF75v4 (Fx : TF75v4) (s : St) : Option R75v4 := Fx 
def valF75v4 (o : R75v4) : AV := match o with | .r => .clos 96 [] [.ptr 0 0 0]
def memF75v4 (o : R75v4) : List Blk := match o with | .r => [.var [.any] [.clos 80 [] []]]
def elF75v4 {R : Type} (o : R75v4) (k : AV → List Blk → Option R) : Option R := match o with | .r => k (.clos 96 [] [.ptr 0 0 0]) [.var [.any] [.clos 80 [] []]]
def RecOkF75v4 (Fx : TF75v4) : Prop := ∀ lk M o, FFF75v4 Fx (canS sgF75v4 lk M) = some o → FCalls CX 75 0 (argsE 1 (canS sgF75v4 lk M).env) (canS sgF75v4 lk M).mem (valF75v4 o) (memF75v4 o)
noncomputable def csF75v4 (N : Nat) (R : Type) : List (CE R) := []
theorem hcsF75v4 (N : Nat) (R : Type) : AllE (CeOk CX) (csF75v4 N R) := trivial
noncomputable def T75v4ur1 (N : Nat) (R : Type) : LTab R := mkTab ⟨4, 15⟩ (csF75v4 N R) (noY) [] [] []
theorem okT75v4ur1 (N : Nat) (R : Type) : (T75v4ur1 N R).Ok CX code75 := mkTab_ok (hcsF75v4 N R) (noY_ok) (trivial) (trivial) (trivial)
def rsF75v4 : List ResultVar := [.tmp 2]
def F75v4 : Nat → TF75v4
  | 0 => none
  | N + 1 => 
    some .r
def xRF75v4 : XSh R75v4 := ⟨[], ⟨[(0, .one (.cl 96 [(0, 0, 0)]))], [.var [.any] [.fn 80]]⟩, fun st => [((Eng.look st.env 0).caps.getD 0 .top).id], fun s => .r ⟩
theorem fsF75v4 : ∀ (N : Nat) (lk : Nat → AV) (M : List Blk), FFF75v4 (F75v4 (N + 1)) (canS sgF75v4 lk M) = evfn CX (T75v4ur1 N R75v4) code75 rsF75v4 (argsE 1 (canS sgF75v4 lk M).env) (canS sgF75v4 lk M).mem (goR CX 0 (fun _ => some xRF75v4)) := by intro N lk M; kernel_rfl
theorem soundF75v4 : ∀ N, RecOkF75v4 (F75v4 N)
  | 0, lk, M, o, h => by cases h
  | N + 1, lk, M, o, h => fn_sound hX (okT75v4ur1 N R75v4) Try.func75 hb75 rfl en75 (by kernel_rfl) (ys := fun _ => some xRF75v4) (fun st y h => by injection h with h; subst h; exact fun lk M => ⟨rfl, rfl⟩) ((fsF75v4 N lk M).symm.trans h)
def cvce75v4n0 : List Cv := []
def selce75v4n0 : St → List Nat := fun _ => []
noncomputable def ce75v4n0 (Fx : TF75v4) (R : Type) (test : List AV → List Blk → Bool) : CE R := ⟨75, test, fun args M => some (selce75v4n0 ⟨argEnv 0 args, M, [], .unk⟩), fun args M k => tst (Nat.beq args.length 1) (callFn CX 0 cvce75v4n0 sgF75v4 selce75v4n0 (FFF75v4 Fx) elF75v4 args M k)⟩
theorem okce75v4n0 (Fx : TF75v4) (h : RecOkF75v4 Fx) (R : Type) (test : List AV → List Blk → Bool) : CeOk CX (ce75v4n0 Fx R test) := ce_ok hX (fun o k => by cases o; rfl) h en75 (fun args M ids h => by injection h with h; exact ⟨rfl, h.symm⟩)
end Go.Proofs.Ytnfmdenclkdmbaa

namespace Go.Proofs.Ytnfmdenclkdmbaa
open Go Go.Eng
set_option maxRecDepth 100000

/-! ### F75v5: ceiling/num.relation -/
inductive R75v5 where
  | r
abbrev TF75v5 := Option R75v5
def sgF75v5 : LSh := ⟨[(0, .one (.fn 81))], []⟩
def FFF75v5 (Fx : TF75v5) (s : St) : Option R75v5 := Fx 
def valF75v5 (o : R75v5) : AV := match o with | .r => .clos 96 [] [.ptr 0 0 0]
def memF75v5 (o : R75v5) : List Blk := match o with | .r => [.var [.any] [.clos 81 [] []]]
def elF75v5 {R : Type} (o : R75v5) (k : AV → List Blk → Option R) : Option R := match o with | .r => k (.clos 96 [] [.ptr 0 0 0]) [.var [.any] [.clos 81 [] []]]
def RecOkF75v5 (Fx : TF75v5) : Prop := ∀ lk M o, FFF75v5 Fx (canS sgF75v5 lk M) = some o → FCalls CX 75 0 (argsE 1 (canS sgF75v5 lk M).env) (canS sgF75v5 lk M).mem (valF75v5 o) (memF75v5 o)
noncomputable def csF75v5 (N : Nat) (R : Type) : List (CE R) := []
theorem hcsF75v5 (N : Nat) (R : Type) : AllE (CeOk CX) (csF75v5 N R) := trivial
noncomputable def T75v5ur1 (N : Nat) (R : Type) : LTab R := mkTab ⟨4, 15⟩ (csF75v5 N R) (noY) [] [] []
theorem okT75v5ur1 (N : Nat) (R : Type) : (T75v5ur1 N R).Ok CX code75 := mkTab_ok (hcsF75v5 N R) (noY_ok) (trivial) (trivial) (trivial)
def rsF75v5 : List ResultVar := [.tmp 2]
def F75v5 : Nat → TF75v5
  | 0 => none
  | N + 1 => 
    some .r
def xRF75v5 : XSh R75v5 := ⟨[], ⟨[(0, .one (.cl 96 [(0, 0, 0)]))], [.var [.any] [.fn 81]]⟩, fun st => [((Eng.look st.env 0).caps.getD 0 .top).id], fun s => .r ⟩
theorem fsF75v5 : ∀ (N : Nat) (lk : Nat → AV) (M : List Blk), FFF75v5 (F75v5 (N + 1)) (canS sgF75v5 lk M) = evfn CX (T75v5ur1 N R75v5) code75 rsF75v5 (argsE 1 (canS sgF75v5 lk M).env) (canS sgF75v5 lk M).mem (goR CX 0 (fun _ => some xRF75v5)) := by intro N lk M; kernel_rfl
theorem soundF75v5 : ∀ N, RecOkF75v5 (F75v5 N)
  | 0, lk, M, o, h => by cases h
  | N + 1, lk, M, o, h => fn_sound hX (okT75v5ur1 N R75v5) Try.func75 hb75 rfl en75 (by kernel_rfl) (ys := fun _ => some xRF75v5) (fun st y h => by injection h with h; subst h; exact fun lk M => ⟨rfl, rfl⟩) ((fsF75v5 N lk M).symm.trans h)
def cvce75v5n0 : List Cv := []
def selce75v5n0 : St → List Nat := fun _ => []
noncomputable def ce75v5n0 (Fx : TF75v5) (R : Type) (test : List AV → List Blk → Bool) : CE R := ⟨75, test, fun args M => some (selce75v5n0 ⟨argEnv 0 args, M, [], .unk⟩), fun args M k => tst (Nat.beq args.length 1) (callFn CX 0 cvce75v5n0 sgF75v5 selce75v5n0 (FFF75v5 Fx) elF75v5 args M k)⟩
theorem okce75v5n0 (Fx : TF75v5) (h : RecOkF75v5 Fx) (R : Type) (test : List AV → List Blk → Bool) : CeOk CX (ce75v5n0 Fx R test) := ce_ok hX (fun o k => by cases o; rfl) h en75 (fun args M ids h => by injection h with h; exact ⟨rfl, h.symm⟩)
end Go.Proofs.Ytnfmdenclkdmbaa

namespace Go.Proofs.Ytnfmdenclkdmbaa
open Go Go.Eng
set_option maxRecDepth 100000

/-! ### F67v3: ceiling/num.always -/
inductive R67v3 where
  | r
abbrev TF67v3 := Option R67v3
def sgF67v3 : LSh := ⟨[(0, .one (.fn 82))], []⟩
def FFF67v3 (Fx : TF67v3) (s : St) : Option R67v3 := Fx 
def valF67v3 (o : R67v3) : AV := match o with | .r => .clos 94 [] [.ptr 0 0 0]
def memF67v3 (o : R67v3) : List Blk := match o with | .r => [.var [.any] [.clos 82 [] []]]
def elF67v3 {R : Type} (o : R67v3) (k : AV → List Blk → Option R) : Option R := match o with | .r => k (.clos 94 [] [.ptr 0 0 0]) [.var [.any] [.clos 82 [] []]]
def RecOkF67v3 (Fx : TF67v3) : Prop := ∀ lk M o, FFF67v3 Fx (canS sgF67v3 lk M) = some o → FCalls CX 67 0 (argsE 1 (canS sgF67v3 lk M).env) (canS sgF67v3 lk M).mem (valF67v3 o) (memF67v3 o)
noncomputable def csF67v3 (N : Nat) (R : Type) : List (CE R) := []
theorem hcsF67v3 (N : Nat) (R : Type) : AllE (CeOk CX) (csF67v3 N R) := trivial
noncomputable def T67v3ur1 (N : Nat) (R : Type) : LTab R := mkTab ⟨4, 15⟩ (csF67v3 N R) (noY) [] [] []
theorem okT67v3ur1 (N : Nat) (R : Type) : (T67v3ur1 N R).Ok CX code67 := mkTab_ok (hcsF67v3 N R) (noY_ok) (trivial) (trivial) (trivial)
def rsF67v3 : List ResultVar := [.tmp 2]
def F67v3 : Nat → TF67v3
  | 0 => none
  | N + 1 => 
    some .r
def xRF67v3 : XSh R67v3 := ⟨[], ⟨[(0, .one (.cl 94 [(0, 0, 0)]))], [.var [.any] [.fn 82]]⟩, fun st => [((Eng.look st.env 0).caps.getD 0 .top).id], fun s => .r ⟩
theorem fsF67v3 : ∀ (N : Nat) (lk : Nat → AV) (M : List Blk), FFF67v3 (F67v3 (N + 1)) (canS sgF67v3 lk M) = evfn CX (T67v3ur1 N R67v3) code67 rsF67v3 (argsE 1 (canS sgF67v3 lk M).env) (canS sgF67v3 lk M).mem (goR CX 0 (fun _ => some xRF67v3)) := by intro N lk M; kernel_rfl
theorem soundF67v3 : ∀ N, RecOkF67v3 (F67v3 N)
  | 0, lk, M, o, h => by cases h
  | N + 1, lk, M, o, h => fn_sound hX (okT67v3ur1 N R67v3) Try.func67 hb67 rfl en67 (by kernel_rfl) (ys := fun _ => some xRF67v3) (fun st y h => by injection h with h; subst h; exact fun lk M => ⟨rfl, rfl⟩) ((fsF67v3 N lk M).symm.trans h)
def cvce67v3n0 : List Cv := []
def selce67v3n0 : St → List Nat := fun _ => []
noncomputable def ce67v3n0 (Fx : TF67v3) (R : Type) (test : List AV → List Blk → Bool) : CE R := ⟨67, test, fun args M => some (selce67v3n0 ⟨argEnv 0 args, M, [], .unk⟩), fun args M k => tst (Nat.beq args.length 1) (callFn CX 0 cvce67v3n0 sgF67v3 selce67v3n0 (FFF67v3 Fx) elF67v3 args M k)⟩
theorem okce67v3n0 (Fx : TF67v3) (h : RecOkF67v3 Fx) (R : Type) (test : List AV → List Blk → Bool) : CeOk CX (ce67v3n0 Fx R test) := ce_ok hX (fun o k => by cases o; rfl) h en67 (fun args M ids h => by injection h with h; exact ⟨rfl, h.symm⟩)
end Go.Proofs.Ytnfmdenclkdmbaa

namespace Go.Proofs.Ytnfmdenclkdmbaa
open Go Go.Eng
set_option maxRecDepth 100000

/-! ### F67v4: ceiling/num.always -/
inductive R67v4 where
  | r
abbrev TF67v4 := Option R67v4
def sgF67v4 : LSh := ⟨[(0, .one (.fn 83))], []⟩
def FFF67v4 (Fx : TF67v4) (s : St) : Option R67v4 := Fx 
def valF67v4 (o : R67v4) : AV := match o with | .r => .clos 94 [] [.ptr 0 0 0]
def memF67v4 (o : R67v4) : List Blk := match o with | .r => [.var [.any] [.clos 83 [] []]]
def elF67v4 {R : Type} (o : R67v4) (k : AV → List Blk → Option R) : Option R := match o with | .r => k (.clos 94 [] [.ptr 0 0 0]) [.var [.any] [.clos 83 [] []]]
def RecOkF67v4 (Fx : TF67v4) : Prop := ∀ lk M o, FFF67v4 Fx (canS sgF67v4 lk M) = some o → FCalls CX 67 0 (argsE 1 (canS sgF67v4 lk M).env) (canS sgF67v4 lk M).mem (valF67v4 o) (memF67v4 o)
noncomputable def csF67v4 (N : Nat) (R : Type) : List (CE R) := []
theorem hcsF67v4 (N : Nat) (R : Type) : AllE (CeOk CX) (csF67v4 N R) := trivial
noncomputable def T67v4ur1 (N : Nat) (R : Type) : LTab R := mkTab ⟨4, 15⟩ (csF67v4 N R) (noY) [] [] []
theorem okT67v4ur1 (N : Nat) (R : Type) : (T67v4ur1 N R).Ok CX code67 := mkTab_ok (hcsF67v4 N R) (noY_ok) (trivial) (trivial) (trivial)
def rsF67v4 : List ResultVar := [.tmp 2]
def F67v4 : Nat → TF67v4
  | 0 => none
  | N + 1 => 
    some .r
def xRF67v4 : XSh R67v4 := ⟨[], ⟨[(0, .one (.cl 94 [(0, 0, 0)]))], [.var [.any] [.fn 83]]⟩, fun st => [((Eng.look st.env 0).caps.getD 0 .top).id], fun s => .r ⟩
theorem fsF67v4 : ∀ (N : Nat) (lk : Nat → AV) (M : List Blk), FFF67v4 (F67v4 (N + 1)) (canS sgF67v4 lk M) = evfn CX (T67v4ur1 N R67v4) code67 rsF67v4 (argsE 1 (canS sgF67v4 lk M).env) (canS sgF67v4 lk M).mem (goR CX 0 (fun _ => some xRF67v4)) := by intro N lk M; kernel_rfl
theorem soundF67v4 : ∀ N, RecOkF67v4 (F67v4 N)
  | 0, lk, M, o, h => by cases h
  | N + 1, lk, M, o, h => fn_sound hX (okT67v4ur1 N R67v4) Try.func67 hb67 rfl en67 (by kernel_rfl) (ys := fun _ => some xRF67v4) (fun st y h => by injection h with h; subst h; exact fun lk M => ⟨rfl, rfl⟩) ((fsF67v4 N lk M).symm.trans h)
def cvce67v4n0 : List Cv := []
def selce67v4n0 : St → List Nat := fun _ => []
noncomputable def ce67v4n0 (Fx : TF67v4) (R : Type) (test : List AV → List Blk → Bool) : CE R := ⟨67, test, fun args M => some (selce67v4n0 ⟨argEnv 0 args, M, [], .unk⟩), fun args M k => tst (Nat.beq args.length 1) (callFn CX 0 cvce67v4n0 sgF67v4 selce67v4n0 (FFF67v4 Fx) elF67v4 args M k)⟩
theorem okce67v4n0 (Fx : TF67v4) (h : RecOkF67v4 Fx) (R : Type) (test : List AV → List Blk → Bool) : CeOk CX (ce67v4n0 Fx R test) := ce_ok hX (fun o k => by cases o; rfl) h en67 (fun args M ids h => by injection h with h; exact ⟨rfl, h.symm⟩)
end Go.Proofs.Ytnfmdenclkdmbaa

namespace Go.Proofs.Ytnfmdenclkdmbaa
open Go Go.Eng
set_option maxRecDepth 100000

/-! ### F67v5: ceiling/num.always -/
inductive R67v5 where
  | r
abbrev TF67v5 := Option R67v5
def sgF67v5 : LSh := ⟨[(0, .one (.fn 84))], []⟩
def FFF67v5 (Fx : TF67v5) (s : St) : Option R67v5 := Fx 
def valF67v5 (o : R67v5) : AV := match o with | .r => .clos 94 [] [.ptr 0 0 0]
def memF67v5 (o : R67v5) : List Blk := match o with | .r => [.var [.any] [.clos 84 [] []]]
def elF67v5 {R : Type} (o : R67v5) (k : AV → List Blk → Option R) : Option R := match o with | .r => k (.clos 94 [] [.ptr 0 0 0]) [.var [.any] [.clos 84 [] []]]
def RecOkF67v5 (Fx : TF67v5) : Prop := ∀ lk M o, FFF67v5 Fx (canS sgF67v5 lk M) = some o → FCalls CX 67 0 (argsE 1 (canS sgF67v5 lk M).env) (canS sgF67v5 lk M).mem (valF67v5 o) (memF67v5 o)
noncomputable def csF67v5 (N : Nat) (R : Type) : List (CE R) := []
theorem hcsF67v5 (N : Nat) (R : Type) : AllE (CeOk CX) (csF67v5 N R) := trivial
noncomputable def T67v5ur1 (N : Nat) (R : Type) : LTab R := mkTab ⟨4, 15⟩ (csF67v5 N R) (noY) [] [] []
theorem okT67v5ur1 (N : Nat) (R : Type) : (T67v5ur1 N R).Ok CX code67 := mkTab_ok (hcsF67v5 N R) (noY_ok) (trivial) (trivial) (trivial)
def rsF67v5 : List ResultVar := [.tmp 2]
def F67v5 : Nat → TF67v5
  | 0 => none
  | N + 1 => 
    some .r
def xRF67v5 : XSh R67v5 := ⟨[], ⟨[(0, .one (.cl 94 [(0, 0, 0)]))], [.var [.any] [.fn 84]]⟩, fun st => [((Eng.look st.env 0).caps.getD 0 .top).id], fun s => .r ⟩
theorem fsF67v5 : ∀ (N : Nat) (lk : Nat → AV) (M : List Blk), FFF67v5 (F67v5 (N + 1)) (canS sgF67v5 lk M) = evfn CX (T67v5ur1 N R67v5) code67 rsF67v5 (argsE 1 (canS sgF67v5 lk M).env) (canS sgF67v5 lk M).mem (goR CX 0 (fun _ => some xRF67v5)) := by intro N lk M; kernel_rfl
theorem soundF67v5 : ∀ N, RecOkF67v5 (F67v5 N)
  | 0, lk, M, o, h => by cases h
  | N + 1, lk, M, o, h => fn_sound hX (okT67v5ur1 N R67v5) Try.func67 hb67 rfl en67 (by kernel_rfl) (ys := fun _ => some xRF67v5) (fun st y h => by injection h with h; subst h; exact fun lk M => ⟨rfl, rfl⟩) ((fsF67v5 N lk M).symm.trans h)
def cvce67v5n0 : List Cv := []
def selce67v5n0 : St → List Nat := fun _ => []
noncomputable def ce67v5n0 (Fx : TF67v5) (R : Type) (test : List AV → List Blk → Bool) : CE R := ⟨67, test, fun args M => some (selce67v5n0 ⟨argEnv 0 args, M, [], .unk⟩), fun args M k => tst (Nat.beq args.length 1) (callFn CX 0 cvce67v5n0 sgF67v5 selce67v5n0 (FFF67v5 Fx) elF67v5 args M k)⟩
theorem okce67v5n0 (Fx : TF67v5) (h : RecOkF67v5 Fx) (R : Type) (test : List AV → List Blk → Bool) : CeOk CX (ce67v5n0 Fx R test) := ce_ok hX (fun o k => by cases o; rfl) h en67 (fun args M ids h => by injection h with h; exact ⟨rfl, h.symm⟩)
end Go.Proofs.Ytnfmdenclkdmbaa

namespace Go.Proofs.Ytnfmdenclkdmbaa
open Go Go.Eng
set_option maxRecDepth 100000

/-! ### F67v6: ceiling/num.always -/
inductive R67v6 where
  | r
abbrev TF67v6 := Option R67v6
def sgF67v6 : LSh := ⟨[(0, .one (.fn 85))], []⟩
def FFF67v6 (Fx : TF67v6) (s : St) : Option R67v6 := Fx 
def valF67v6 (o : R67v6) : AV := match o with | .r => .clos 94 [] [.ptr 0 0 0]
def memF67v6 (o : R67v6) : List Blk := match o with | .r => [.var [.any] [.clos 85 [] []]]
def elF67v6 {R : Type} (o : R67v6) (k : AV → List Blk → Option R) : Option R := match o with | .r => k (.clos 94 [] [.ptr 0 0 0]) [.var [.any] [.clos 85 [] []]]
def RecOkF67v6 (Fx : TF67v6) : Prop := ∀ lk M o, FFF67v6 Fx (canS sgF67v6 lk M) = some o → FCalls CX 67 0 (argsE 1 (canS sgF67v6 lk M).env) (canS sgF67v6 lk M).mem (valF67v6 o) (memF67v6 o)
noncomputable def csF67v6 (N : Nat) (R : Type) : List (CE R) := []
theorem hcsF67v6 (N : Nat) (R : Type) : AllE (CeOk CX) (csF67v6 N R) := trivial
noncomputable def T67v6ur1 (N : Nat) (R : Type) : LTab R := mkTab ⟨4, 15⟩ (csF67v6 N R) (noY) [] [] []
theorem okT67v6ur1 (N : Nat) (R : Type) : (T67v6ur1 N R).Ok CX code67 := mkTab_ok (hcsF67v6 N R) (noY_ok) (trivial) (trivial) (trivial)
def rsF67v6 : List ResultVar := [.tmp 2]
def F67v6 : Nat → TF67v6
  | 0 => none
  | N + 1 => 
    some .r
def xRF67v6 : XSh R67v6 := ⟨[], ⟨[(0, .one (.cl 94 [(0, 0, 0)]))], [.var [.any] [.fn 85]]⟩, fun st => [((Eng.look st.env 0).caps.getD 0 .top).id], fun s => .r ⟩
theorem fsF67v6 : ∀ (N : Nat) (lk : Nat → AV) (M : List Blk), FFF67v6 (F67v6 (N + 1)) (canS sgF67v6 lk M) = evfn CX (T67v6ur1 N R67v6) code67 rsF67v6 (argsE 1 (canS sgF67v6 lk M).env) (canS sgF67v6 lk M).mem (goR CX 0 (fun _ => some xRF67v6)) := by intro N lk M; kernel_rfl
theorem soundF67v6 : ∀ N, RecOkF67v6 (F67v6 N)
  | 0, lk, M, o, h => by cases h
  | N + 1, lk, M, o, h => fn_sound hX (okT67v6ur1 N R67v6) Try.func67 hb67 rfl en67 (by kernel_rfl) (ys := fun _ => some xRF67v6) (fun st y h => by injection h with h; subst h; exact fun lk M => ⟨rfl, rfl⟩) ((fsF67v6 N lk M).symm.trans h)
def cvce67v6n0 : List Cv := []
def selce67v6n0 : St → List Nat := fun _ => []
noncomputable def ce67v6n0 (Fx : TF67v6) (R : Type) (test : List AV → List Blk → Bool) : CE R := ⟨67, test, fun args M => some (selce67v6n0 ⟨argEnv 0 args, M, [], .unk⟩), fun args M k => tst (Nat.beq args.length 1) (callFn CX 0 cvce67v6n0 sgF67v6 selce67v6n0 (FFF67v6 Fx) elF67v6 args M k)⟩
theorem okce67v6n0 (Fx : TF67v6) (h : RecOkF67v6 Fx) (R : Type) (test : List AV → List Blk → Bool) : CeOk CX (ce67v6n0 Fx R test) := ce_ok hX (fun o k => by cases o; rfl) h en67 (fun args M ids h => by injection h with h; exact ⟨rfl, h.symm⟩)
end Go.Proofs.Ytnfmdenclkdmbaa

namespace Go.Proofs.Ytnfmdenclkdmbaa
open Go Go.Eng
set_option maxRecDepth 100000

/-! ### F67v7: ceiling/num.always -/
inductive R67v7 where
  | r
abbrev TF67v7 := Option R67v7
def sgF67v7 : LSh := ⟨[(0, .one (.fn 86))], []⟩
def FFF67v7 (Fx : TF67v7) (s : St) : Option R67v7 := Fx 
def valF67v7 (o : R67v7) : AV := match o with | .r => .clos 94 [] [.ptr 0 0 0]
def memF67v7 (o : R67v7) : List Blk := match o with | .r => [.var [.any] [.clos 86 [] []]]
def elF67v7 {R : Type} (o : R67v7) (k : AV → List Blk → Option R) : Option R := match o with | .r => k (.clos 94 [] [.ptr 0 0 0]) [.var [.any] [.clos 86 [] []]]
def RecOkF67v7 (Fx : TF67v7) : Prop := ∀ lk M o, FFF67v7 Fx (canS sgF67v7 lk M) = some o → FCalls CX 67 0 (argsE 1 (canS sgF67v7 lk M).env) (canS sgF67v7 lk M).mem (valF67v7 o) (memF67v7 o)
noncomputable def csF67v7 (N : Nat) (R : Type) : List (CE R) := []
theorem hcsF67v7 (N : Nat) (R : Type) : AllE (CeOk CX) (csF67v7 N R) := trivial
noncomputable def T67v7ur1 (N : Nat) (R : Type) : LTab R := mkTab ⟨4, 15⟩ (csF67v7 N R) (noY) [] [] []
theorem okT67v7ur1 (N : Nat) (R : Type) : (T67v7ur1 N R).Ok CX code67 := mkTab_ok (hcsF67v7 N R) (noY_ok) (trivial) (trivial) (trivial)
def rsF67v7 : List ResultVar := [.tmp 2]
def F67v7 : Nat → TF67v7
  | 0 => none
  | N + 1 => 
    some .r
def xRF67v7 : XSh R67v7 := ⟨[], ⟨[(0, .one (.cl 94 [(0, 0, 0)]))], [.var [.any] [.fn 86]]⟩, fun st => [((Eng.look st.env 0).caps.getD 0 .top).id], fun s => .r ⟩
theorem fsF67v7 : ∀ (N : Nat) (lk : Nat → AV) (M : List Blk), FFF67v7 (F67v7 (N + 1)) (canS sgF67v7 lk M) = evfn CX (T67v7ur1 N R67v7) code67 rsF67v7 (argsE 1 (canS sgF67v7 lk M).env) (canS sgF67v7 lk M).mem (goR CX 0 (fun _ => some xRF67v7)) := by intro N lk M; kernel_rfl
theorem soundF67v7 : ∀ N, RecOkF67v7 (F67v7 N)
  | 0, lk, M, o, h => by cases h
  | N + 1, lk, M, o, h => fn_sound hX (okT67v7ur1 N R67v7) Try.func67 hb67 rfl en67 (by kernel_rfl) (ys := fun _ => some xRF67v7) (fun st y h => by injection h with h; subst h; exact fun lk M => ⟨rfl, rfl⟩) ((fsF67v7 N lk M).symm.trans h)
def cvce67v7n0 : List Cv := []
def selce67v7n0 : St → List Nat := fun _ => []
noncomputable def ce67v7n0 (Fx : TF67v7) (R : Type) (test : List AV → List Blk → Bool) : CE R := ⟨67, test, fun args M => some (selce67v7n0 ⟨argEnv 0 args, M, [], .unk⟩), fun args M k => tst (Nat.beq args.length 1) (callFn CX 0 cvce67v7n0 sgF67v7 selce67v7n0 (FFF67v7 Fx) elF67v7 args M k)⟩
theorem okce67v7n0 (Fx : TF67v7) (h : RecOkF67v7 Fx) (R : Type) (test : List AV → List Blk → Bool) : CeOk CX (ce67v7n0 Fx R test) := ce_ok hX (fun o k => by cases o; rfl) h en67 (fun args M ids h => by injection h with h; exact ⟨rfl, h.symm⟩)
end Go.Proofs.Ytnfmdenclkdmbaa

namespace Go.Proofs.Ytnfmdenclkdmbaa
open Go Go.Eng
set_option maxRecDepth 100000

/-! ### F67v8: ceiling/num.always -/
inductive R67v8 where
  | r
abbrev TF67v8 := Option R67v8
def sgF67v8 : LSh := ⟨[(0, .one (.fn 87))], []⟩
def FFF67v8 (Fx : TF67v8) (s : St) : Option R67v8 := Fx 
def valF67v8 (o : R67v8) : AV := match o with | .r => .clos 94 [] [.ptr 0 0 0]
def memF67v8 (o : R67v8) : List Blk := match o with | .r => [.var [.any] [.clos 87 [] []]]
def elF67v8 {R : Type} (o : R67v8) (k : AV → List Blk → Option R) : Option R := match o with | .r => k (.clos 94 [] [.ptr 0 0 0]) [.var [.any] [.clos 87 [] []]]
def RecOkF67v8 (Fx : TF67v8) : Prop := ∀ lk M o, FFF67v8 Fx (canS sgF67v8 lk M) = some o → FCalls CX 67 0 (argsE 1 (canS sgF67v8 lk M).env) (canS sgF67v8 lk M).mem (valF67v8 o) (memF67v8 o)
noncomputable def csF67v8 (N : Nat) (R : Type) : List (CE R) := []
theorem hcsF67v8 (N : Nat) (R : Type) : AllE (CeOk CX) (csF67v8 N R) := trivial
noncomputable def T67v8ur1 (N : Nat) (R : Type) : LTab R := mkTab ⟨4, 15⟩ (csF67v8 N R) (noY) [] [] []
theorem okT67v8ur1 (N : Nat) (R : Type) : (T67v8ur1 N R).Ok CX code67 := mkTab_ok (hcsF67v8 N R) (noY_ok) (trivial) (trivial) (trivial)
def rsF67v8 : List ResultVar := [.tmp 2]
def F67v8 : Nat → TF67v8
  | 0 => none
  | N + 1 => 
    some .r
def xRF67v8 : XSh R67v8 := ⟨[], ⟨[(0, .one (.cl 94 [(0, 0, 0)]))], [.var [.any] [.fn 87]]⟩, fun st => [((Eng.look st.env 0).caps.getD 0 .top).id], fun s => .r ⟩
theorem fsF67v8 : ∀ (N : Nat) (lk : Nat → AV) (M : List Blk), FFF67v8 (F67v8 (N + 1)) (canS sgF67v8 lk M) = evfn CX (T67v8ur1 N R67v8) code67 rsF67v8 (argsE 1 (canS sgF67v8 lk M).env) (canS sgF67v8 lk M).mem (goR CX 0 (fun _ => some xRF67v8)) := by intro N lk M; kernel_rfl
theorem soundF67v8 : ∀ N, RecOkF67v8 (F67v8 N)
  | 0, lk, M, o, h => by cases h
  | N + 1, lk, M, o, h => fn_sound hX (okT67v8ur1 N R67v8) Try.func67 hb67 rfl en67 (by kernel_rfl) (ys := fun _ => some xRF67v8) (fun st y h => by injection h with h; subst h; exact fun lk M => ⟨rfl, rfl⟩) ((fsF67v8 N lk M).symm.trans h)
def cvce67v8n0 : List Cv := []
def selce67v8n0 : St → List Nat := fun _ => []
noncomputable def ce67v8n0 (Fx : TF67v8) (R : Type) (test : List AV → List Blk → Bool) : CE R := ⟨67, test, fun args M => some (selce67v8n0 ⟨argEnv 0 args, M, [], .unk⟩), fun args M k => tst (Nat.beq args.length 1) (callFn CX 0 cvce67v8n0 sgF67v8 selce67v8n0 (FFF67v8 Fx) elF67v8 args M k)⟩
theorem okce67v8n0 (Fx : TF67v8) (h : RecOkF67v8 Fx) (R : Type) (test : List AV → List Blk → Bool) : CeOk CX (ce67v8n0 Fx R test) := ce_ok hX (fun o k => by cases o; rfl) h en67 (fun args M ids h => by injection h with h; exact ⟨rfl, h.symm⟩)
end Go.Proofs.Ytnfmdenclkdmbaa

namespace Go.Proofs.Ytnfmdenclkdmbaa
open Go Go.Eng
set_option maxRecDepth 100000

/-! ### F68: ceiling/num.operators.1 -/
inductive R68 where
  | r (x0 : Int)
abbrev TF68 := Int → Int → Option R68
def sgF68 : LSh := ⟨[(0, .one (.cell (.int .i64))), (1, .one (.cell (.int .i64)))], []⟩
def FFF68 (Fx : TF68) (s : St) : Option R68 := Fx ((Eng.look s.env 0).toI) ((Eng.look s.env 1).toI)
def valF68 (o : R68) : AV := match o with | .r x0 => .int .i64 x0
def memF68 (o : R68) : List Blk := match o with | .r x0 => []
def elF68 {R : Type} (o : R68) (k : AV → List Blk → Option R) : Option R := match o with | .r x0 => k (.int .i64 x0) []
def RecOkF68 (Fx : TF68) : Prop := ∀ lk M o, FFF68 Fx (canS sgF68 lk M) = some o → FCalls CX 68 0 (argsE 2 (canS sgF68 lk M).env) (canS sgF68 lk M).mem (valF68 o) (memF68 o)
noncomputable def csF68 (N : Nat) (R : Type) : List (CE R) := []
theorem hcsF68 (N : Nat) (R : Type) : AllE (CeOk CX) (csF68 N R) := trivial
noncomputable def T68ur1 (N : Nat) (R : Type) : LTab R := mkTab ⟨8, 255⟩ (csF68 N R) (noY) [] [] []
theorem okT68ur1 (N : Nat) (R : Type) : (T68ur1 N R).Ok CX code68 := mkTab_ok (hcsF68 N R) (noY_ok) (trivial) (trivial) (trivial)
def rsF68 : List ResultVar := [.tmp 4]
def F68 : Nat → TF68
  | 0 => fun _ _ => none
  | N + 1 => fun x0 x1 =>
    some (.r (IntKind.wrap .i64 (x0 + x1)))
def xRF68 : XSh R68 := ⟨[], ⟨[(0, .one (.cell (.int .i64)))], []⟩, fun _ => [], fun s => .r ((Eng.look s.env 0).toI)⟩
theorem fsF68 : ∀ (N : Nat) (lk : Nat → AV) (M : List Blk), FFF68 (F68 (N + 1)) (canS sgF68 lk M) = evfn CX (T68ur1 N R68) code68 rsF68 (argsE 2 (canS sgF68 lk M).env) (canS sgF68 lk M).mem (goR CX 0 (fun _ => some xRF68)) := by intro N lk M; kernel_rfl
theorem soundF68 : ∀ N, RecOkF68 (F68 N)
  | 0, lk, M, o, h => by cases h
  | N + 1, lk, M, o, h => fn_sound hX (okT68ur1 N R68) Try.func68 hb68 rfl en68 (by kernel_rfl) (ys := fun _ => some xRF68) (fun st y h => by injection h with h; subst h; exact fun lk M => ⟨rfl, rfl⟩) ((fsF68 N lk M).symm.trans h)
def cvce68n0 : List Cv := []
def selce68n0 : St → List Nat := fun _ => []
noncomputable def ce68n0 (Fx : TF68) (R : Type) (test : List AV → List Blk → Bool) : CE R := ⟨68, test, fun args M => some (selce68n0 ⟨argEnv 0 args, M, [], .unk⟩), fun args M k => tst (Nat.beq args.length 2) (callFn CX 0 cvce68n0 sgF68 selce68n0 (FFF68 Fx) elF68 args M k)⟩
theorem okce68n0 (Fx : TF68) (h : RecOkF68 Fx) (R : Type) (test : List AV → List Blk → Bool) : CeOk CX (ce68n0 Fx R test) := ce_ok hX (fun o k => by cases o; rfl) h en68 (fun args M ids h => by injection h with h; exact ⟨rfl, h.symm⟩)
end Go.Proofs.Ytnfmdenclkdmbaa

namespace Go.Proofs.Ytnfmdenclkdmbaa
open Go Go.Eng
set_option maxRecDepth 100000

/-! ### F94: ceiling/num.always.1 -/
inductive R94 where
  | r (x0 : Int) (x1 : Bool)
abbrev TF94 := Int → Int → Option R94
def sgF94 : LSh := ⟨[(0, .one (.cell (.int .i64))), (1, .one (.cell (.int .i64))), (2, .one (.ptr 0 0 0))], [.var [.any] [.fn 68]]⟩
def FFF94 (Fx : TF94) (s : St) : Option R94 := Fx ((Eng.look s.env 0).toI) ((Eng.look s.env 1).toI)
def valF94 (o : R94) : AV := match o with | .r x0 x1 => .tup [.int .i64 x0, .bool x1]
def memF94 (o : R94) : List Blk := match o with | .r x0 x1 => [.var [.any] [.clos 68 [] []]]
def elF94 {R : Type} (o : R94) (k : AV → List Blk → Option R) : Option R := match o with | .r x0 x1 => k (.tup [.int .i64 x0, .bool x1]) [.var [.any] [.clos 68 [] []]]
def RecOkF94 (Fx : TF94) : Prop := ∀ lk M o, FFF94 Fx (canS sgF94 lk M) = some o → FCalls CX 94 1 (argsE 3 (canS sgF94 lk M).env) (canS sgF94 lk M).mem (valF94 o) (memF94 o)
noncomputable def csF94 (N : Nat) (R : Type) : List (CE R) := [ce68n0 (F68 N) R (fun _ _ => true)]
theorem hcsF94 (N : Nat) (R : Type) : AllE (CeOk CX) (csF94 N R) := ⟨okce68n0 (F68 N) (soundF68 N) R (fun _ _ => true), trivial⟩
noncomputable def T94ur1 (N : Nat) (R : Type) : LTab R := mkTab ⟨11, 2047⟩ (csF94 N R) (noY) [] [] []
theorem okT94ur1 (N : Nat) (R : Type) : (T94ur1 N R).Ok CX code94 := mkTab_ok (hcsF94 N R) (noY_ok) (trivial) (trivial) (trivial)
def rsF94 : List ResultVar := [.tmp 5, .tmp 6]
def F94 : Nat → TF94
  | 0 => fun _ _ => none
  | N + 1 => fun x0 x1 =>
    match F68 N x0 x1 with
    | none => none
    | some (.r rx0v1) =>
      some (.r rx0v1 true)
def xRF94 : XSh R94 := ⟨[], ⟨[(0, .one (.cell (.int .i64))), (1, .one (.cell (.bool)))], [.var [.any] [.fn 68]]⟩, fun st => [0], fun s => .r ((Eng.look s.env 0).toI) ((Eng.look s.env 1).toB)⟩
theorem fsF94 : ∀ (N : Nat) (lk : Nat → AV) (M : List Blk), FFF94 (F94 (N + 1)) (canS sgF94 lk M) = evfn CX (T94ur1 N R94) code94 rsF94 (argsE 3 (canS sgF94 lk M).env) (canS sgF94 lk M).mem (goRt CX 1 2 (fun _ => some xRF94)) := by intro N lk M; kernel_rfl
theorem soundF94 : ∀ N, RecOkF94 (F94 N)
  | 0, lk, M, o, h => by cases h
  | N + 1, lk, M, o, h => fn_soundt hX (okT94ur1 N R94) Try.func94 hb94 rfl en94 (by kernel_rfl) (ys := fun _ => some xRF94) (fun st y h => by injection h with h; subst h; exact fun lk M => ⟨rfl, rfl⟩) ((fsF94 N lk M).symm.trans h)
def cvce94n0 : List Cv := []
def selce94n0 : St → List Nat := fun st => [(Eng.look st.env 2).id]
noncomputable def ce94n0 (Fx : TF94) (R : Type) (test : List AV → List Blk → Bool) : CE R := ⟨94, test, fun args M => some (selce94n0 ⟨argEnv 0 args, M, [], .unk⟩), fun args M k => tst (Nat.beq args.length 3) (callFn CX 1 cvce94n0 sgF94 selce94n0 (FFF94 Fx) elF94 args M k)⟩
theorem okce94n0 (Fx : TF94) (h : RecOkF94 Fx) (R : Type) (test : List AV → List Blk → Bool) : CeOk CX (ce94n0 Fx R test) := ce_ok hX (fun o k => by cases o; rfl) h en94 (fun args M ids h => by injection h with h; exact ⟨rfl, h.symm⟩)
end Go.Proofs.Ytnfmdenclkdmbaa

namespace Go.Proofs.Ytnfmdenclkdmbaa
open Go Go.Eng
set_option maxRecDepth 100000

/-! ### F69: ceiling/num.operators.2 -/
inductive R69 where
  | r (x0 : Int)
abbrev TF69 := Int → Int → Option R69
def sgF69 : LSh := ⟨[(0, .one (.cell (.int .i64))), (1, .one (.cell (.int .i64)))], []⟩
def FFF69 (Fx : TF69) (s : St) : Option R69 := Fx ((Eng.look s.env 0).toI) ((Eng.look s.env 1).toI)
def valF69 (o : R69) : AV := match o with | .r x0 => .int .i64 x0
def memF69 (o : R69) : List Blk := match o with | .r x0 => []
def elF69 {R : Type} (o : R69) (k : AV → List Blk → Option R) : Option R := match o with | .r x0 => k (.int .i64 x0) []
def RecOkF69 (Fx : TF69) : Prop := ∀ lk M o, FFF69 Fx (canS sgF69 lk M) = some o → FCalls CX 69 0 (argsE 2 (canS sgF69 lk M).env) (canS sgF69 lk M).mem (valF69 o) (memF69 o)
noncomputable def csF69 (N : Nat) (R : Type) : List (CE R) := []
theorem hcsF69 (N : Nat) (R : Type) : AllE (CeOk CX) (csF69 N R) := trivial
noncomputable def T69ur1 (N : Nat) (R : Type) : LTab R := mkTab ⟨8, 255⟩ (csF69 N R) (noY) [] [] []
theorem okT69ur1 (N : Nat) (R : Type) : (T69ur1 N R).Ok CX code69 := mkTab_ok (hcsF69 N R) (noY_ok) (trivial) (trivial) (trivial)
def rsF69 : List ResultVar := [.tmp 4]
def F69 : Nat → TF69
  | 0 => fun _ _ => none
  | N + 1 => fun x0 x1 =>
    some (.r (IntKind.wrap .i64 (x0 - x1)))
def xRF69 : XSh R69 := ⟨[], ⟨[(0, .one (.cell (.int .i64)))], []⟩, fun _ => [], fun s => .r ((Eng.look s.env 0).toI)⟩
theorem fsF69 : ∀ (N : Nat) (lk : Nat → AV) (M : List Blk), FFF69 (F69 (N + 1)) (canS sgF69 lk M) = evfn CX (T69ur1 N R69) code69 rsF69 (argsE 2 (canS sgF69 lk M).env) (canS sgF69 lk M).mem (goR CX 0 (fun _ => some xRF69)) := by intro N lk M; kernel_rfl
theorem soundF69 : ∀ N, RecOkF69 (F69 N)
  | 0, lk, M, o, h => by cases h
  | N + 1, lk, M, o, h => fn_sound hX (okT69ur1 N R69) Try.func69 hb69 rfl en69 (by kernel_rfl) (ys := fun _ => some xRF69) (fun st y h => by injection h with h; subst h; exact fun lk M => ⟨rfl, rfl⟩) ((fsF69 N lk M).symm.trans h)
def cvce69n0 : List Cv := []
def selce69n0 : St → List Nat := fun _ => []
noncomputable def ce69n0 (Fx : TF69) (R : Type) (test : List AV → List Blk → Bool) : CE R := ⟨69, test, fun args M => some (selce69n0 ⟨argEnv 0 args, M, [], .unk⟩), fun args M k => tst (Nat.beq args.length 2) (callFn CX 0 cvce69n0 sgF69 selce69n0 (FFF69 Fx) elF69 args M k)⟩
theorem okce69n0 (Fx : TF69) (h : RecOkF69 Fx) (R : Type) (test : List AV → List Blk → Bool) : CeOk CX (ce69n0 Fx R test) := ce_ok hX (fun o k => by cases o; rfl) h en69 (fun args M ids h => by injection h with h; exact ⟨rfl, h.symm⟩)
end Go.Proofs.Ytnfmdenclkdmbaa

namespace Go.Proofs.Ytnfmdenclkdmbaa
open Go Go.Eng
set_option maxRecDepth 100000

/-! ### F94v1: ceiling/num.always.1 -/
inductive R94v1 where
  | r (x0 : Int) (x1 : Bool)
abbrev TF94v1 := Int → Int → Option R94v1
def sgF94v1 : LSh := ⟨[(0, .one (.cell (.int .i64))), (1, .one (.cell (.int .i64))), (2, .one (.ptr 0 0 0))], [.var [.any] [.fn 69]]⟩
def FFF94v1 (Fx : TF94v1) (s : St) : Option R94v1 := Fx ((Eng.look s.env 0).toI) ((Eng.look s.env 1).toI)
def valF94v1 (o : R94v1) : AV := match o with | .r x0 x1 => .tup [.int .i64 x0, .bool x1]
def memF94v1 (o : R94v1) : List Blk := match o with | .r x0 x1 => [.var [.any] [.clos 69 [] []]]
def elF94v1 {R : Type} (o : R94v1) (k : AV → List Blk → Option R) : Option R := match o with | .r x0 x1 => k (.tup [.int .i64 x0, .bool x1]) [.var [.any] [.clos 69 [] []]]
def RecOkF94v1 (Fx : TF94v1) : Prop := ∀ lk M o, FFF94v1 Fx (canS sgF94v1 lk M) = some o → FCalls CX 94 1 (argsE 3 (canS sgF94v1 lk M).env) (canS sgF94v1 lk M).mem (valF94v1 o) (memF94v1 o)
noncomputable def csF94v1 (N : Nat) (R : Type) : List (CE R) := [ce69n0 (F69 N) R (fun _ _ => true)]
theorem hcsF94v1 (N : Nat) (R : Type) : AllE (CeOk CX) (csF94v1 N R) := ⟨okce69n0 (F69 N) (soundF69 N) R (fun _ _ => true), trivial⟩
noncomputable def T94v1ur1 (N : Nat) (R : Type) : LTab R := mkTab ⟨11, 2047⟩ (csF94v1 N R) (noY) [] [] []
theorem okT94v1ur1 (N : Nat) (R : Type) : (T94v1ur1 N R).Ok CX code94 := mkTab_ok (hcsF94v1 N R) (noY_ok) (trivial) (trivial) (trivial)
def rsF94v1 : List ResultVar := [.tmp 5, .tmp 6]
def F94v1 : Nat → TF94v1
  | 0 => fun _ _ => none
  | N + 1 => fun x0 x1 =>
    match F69 N x0 x1 with
    | none => none
    | some (.r rx0v1) =>
      some (.r rx0v1 true)
def xRF94v1 : XSh R94v1 := ⟨[], ⟨[(0, .one (.cell (.int .i64))), (1, .one (.cell (.bool)))], [.var [.any] [.fn 69]]⟩, fun st => [0], fun s => .r ((Eng.look s.env 0).toI) ((Eng.look s.env 1).toB)⟩
theorem fsF94v1 : ∀ (N : Nat) (lk : Nat → AV) (M : List Blk), FFF94v1 (F94v1 (N + 1)) (canS sgF94v1 lk M) = evfn CX (T94v1ur1 N R94v1) code94 rsF94v1 (argsE 3 (canS sgF94v1 lk M).env) (canS sgF94v1 lk M).mem (goRt CX 1 2 (fun _ => some xRF94v1)) := by intro N lk M; kernel_rfl
theorem soundF94v1 : ∀ N, RecOkF94v1 (F94v1 N)
  | 0, lk, M, o, h => by cases h
  | N + 1, lk, M, o, h => fn_soundt hX (okT94v1ur1 N R94v1) Try.func94 hb94 rfl en94 (by kernel_rfl) (ys := fun _ => some xRF94v1) (fun st y h => by injection h with h; subst h; exact fun lk M => ⟨rfl, rfl⟩) ((fsF94v1 N lk M).symm.trans h)
def cvce94v1n0 : List Cv := []
def selce94v1n0 : St → List Nat := fun st => [(Eng.look st.env 2).id]
noncomputable def ce94v1n0 (Fx : TF94v1) (R : Type) (test : List AV → List Blk → Bool) : CE R := ⟨94, test, fun args M => some (selce94v1n0 ⟨argEnv 0 args, M, [], .unk⟩), fun args M k => tst (Nat.beq args.length 3) (callFn CX 1 cvce94v1n0 sgF94v1 selce94v1n0 (FFF94v1 Fx) elF94v1 args M k)⟩
theorem okce94v1n0 (Fx : TF94v1) (h : RecOkF94v1 Fx) (R : Type) (test : List AV → List Blk → Bool) : CeOk CX (ce94v1n0 Fx R test) := ce_ok hX (fun o k => by cases o; rfl) h en94 (fun args M ids h => by injection h with h; exact ⟨rfl, h.symm⟩)
end Go.Proofs.Ytnfmdenclkdmbaa

namespace Go.Proofs.Ytnfmdenclkdmbaa
open Go Go.Eng
set_option maxRecDepth 100000

/-! ### F70: ceiling/num.operators.3 -/
inductive R70 where
  | r (x0 : Int)
abbrev TF70 := Int → Int → Option R70
def sgF70 : LSh := ⟨[(0, .one (.cell (.int .i64))), (1, .one (.cell (.int .i64)))], []⟩
def FFF70 (Fx : TF70) (s : St) : Option R70 := Fx ((Eng.look s.env 0).toI) ((Eng.look s.env 1).toI)
def valF70 (o : R70) : AV := match o with | .r x0 => .int .i64 x0
def memF70 (o : R70) : List Blk := match o with | .r x0 => []
def elF70 {R : Type} (o : R70) (k : AV → List Blk → Option R) : Option R := match o with | .r x0 => k (.int .i64 x0) []
def RecOkF70 (Fx : TF70) : Prop := ∀ lk M o, FFF70 Fx (canS sgF70 lk M) = some o → FCalls CX 70 0 (argsE 2 (canS sgF70 lk M).env) (canS sgF70 lk M).mem (valF70 o) (memF70 o)
noncomputable def csF70 (N : Nat) (R : Type) : List (CE R) := []
theorem hcsF70 (N : Nat) (R : Type) : AllE (CeOk CX) (csF70 N R) := trivial
noncomputable def T70ur1 (N : Nat) (R : Type) : LTab R := mkTab ⟨8, 255⟩ (csF70 N R) (noY) [] [] []
theorem okT70ur1 (N : Nat) (R : Type) : (T70ur1 N R).Ok CX code70 := mkTab_ok (hcsF70 N R) (noY_ok) (trivial) (trivial) (trivial)
def rsF70 : List ResultVar := [.tmp 4]
def F70 : Nat → TF70
  | 0 => fun _ _ => none
  | N + 1 => fun x0 x1 =>
    some (.r (IntKind.wrap .i64 (x0 * x1)))
def xRF70 : XSh R70 := ⟨[], ⟨[(0, .one (.cell (.int .i64)))], []⟩, fun _ => [], fun s => .r ((Eng.look s.env 0).toI)⟩
theorem fsF70 : ∀ (N : Nat) (lk : Nat → AV) (M : List Blk), FFF70 (F70 (N + 1)) (canS sgF70 lk M) = evfn CX (T70ur1 N R70) code70 rsF70 (argsE 2 (canS sgF70 lk M).env) (canS sgF70 lk M).mem (goR CX 0 (fun _ => some xRF70)) := by intro N lk M; kernel_rfl
theorem soundF70 : ∀ N, RecOkF70 (F70 N)
  | 0, lk, M, o, h => by cases h
  | N + 1, lk, M, o, h => fn_sound hX (okT70ur1 N R70) Try.func70 hb70 rfl en70 (by kernel_rfl) (ys := fun _ => some xRF70) (fun st y h => by injection h with h; subst h; exact fun lk M => ⟨rfl, rfl⟩) ((fsF70 N lk M).symm.trans h)
def cvce70n0 : List Cv := []
def selce70n0 : St → List Nat := fun _ => []
noncomputable def ce70n0 (Fx : TF70) (R : Type) (test : List AV → List Blk → Bool) : CE R := ⟨70, test, fun args M => some (selce70n0 ⟨argEnv 0 args, M, [], .unk⟩), fun args M k => tst (Nat.beq args.length 2) (callFn CX 0 cvce70n0 sgF70 selce70n0 (FFF70 Fx) elF70 args M k)⟩
theorem okce70n0 (Fx : TF70) (h : RecOkF70 Fx) (R : Type) (test : List AV → List Blk → Bool) : CeOk CX (ce70n0 Fx R test) := ce_ok hX (fun o k => by cases o; rfl) h en70 (fun args M ids h => by injection h with h; exact ⟨rfl, h.symm⟩)
end Go.Proofs.Ytnfmdenclkdmbaa

namespace Go.Proofs.Ytnfmdenclkdmbaa
open Go Go.Eng
set_option maxRecDepth 100000

/-! ### F94v2: ceiling/num.always.1 -/
inductive R94v2 where
  | r (x0 : Int) (x1 : Bool)
abbrev TF94v2 := Int → Int → Option R94v2
def sgF94v2 : LSh := ⟨[(0, .one (.cell (.int .i64))), (1, .one (.cell (.int .i64))), (2, .one (.ptr 0 0 0))], [.var [.any] [.fn 70]]⟩
def FFF94v2 (Fx : TF94v2) (s : St) : Option R94v2 := Fx ((Eng.look s.env 0).toI) ((Eng.look s.env 1).toI)
def valF94v2 (o : R94v2) : AV := match o with | .r x0 x1 => .tup [.int .i64 x0, .bool x1]
def memF94v2 (o : R94v2) : List Blk := match o with | .r x0 x1 => [.var [.any] [.clos 70 [] []]]
def elF94v2 {R : Type} (o : R94v2) (k : AV → List Blk → Option R) : Option R := match o with | .r x0 x1 => k (.tup [.int .i64 x0, .bool x1]) [.var [.any] [.clos 70 [] []]]
def RecOkF94v2 (Fx : TF94v2) : Prop := ∀ lk M o, FFF94v2 Fx (canS sgF94v2 lk M) = some o → FCalls CX 94 1 (argsE 3 (canS sgF94v2 lk M).env) (canS sgF94v2 lk M).mem (valF94v2 o) (memF94v2 o)
noncomputable def csF94v2 (N : Nat) (R : Type) : List (CE R) := [ce70n0 (F70 N) R (fun _ _ => true)]
theorem hcsF94v2 (N : Nat) (R : Type) : AllE (CeOk CX) (csF94v2 N R) := ⟨okce70n0 (F70 N) (soundF70 N) R (fun _ _ => true), trivial⟩
noncomputable def T94v2ur1 (N : Nat) (R : Type) : LTab R := mkTab ⟨11, 2047⟩ (csF94v2 N R) (noY) [] [] []
theorem okT94v2ur1 (N : Nat) (R : Type) : (T94v2ur1 N R).Ok CX code94 := mkTab_ok (hcsF94v2 N R) (noY_ok) (trivial) (trivial) (trivial)
def rsF94v2 : List ResultVar := [.tmp 5, .tmp 6]
def F94v2 : Nat → TF94v2
  | 0 => fun _ _ => none
  | N + 1 => fun x0 x1 =>
    match F70 N x0 x1 with
    | none => none
    | some (.r rx0v1) =>
      some (.r rx0v1 true)
def xRF94v2 : XSh R94v2 := ⟨[], ⟨[(0, .one (.cell (.int .i64))), (1, .one (.cell (.bool)))], [.var [.any] [.fn 70]]⟩, fun st => [0], fun s => .r ((Eng.look s.env 0).toI) ((Eng.look s.env 1).toB)⟩
theorem fsF94v2 : ∀ (N : Nat) (lk : Nat → AV) (M : List Blk), FFF94v2 (F94v2 (N + 1)) (canS sgF94v2 lk M) = evfn CX (T94v2ur1 N R94v2) code94 rsF94v2 (argsE 3 (canS sgF94v2 lk M).env) (canS sgF94v2 lk M).mem (goRt CX 1 2 (fun _ => some xRF94v2)) := by intro N lk M; kernel_rfl
theorem soundF94v2 : ∀ N, RecOkF94v2 (F94v2 N)
  | 0, lk, M, o, h => by cases h
  | N + 1, lk, M, o, h => fn_soundt hX (okT94v2ur1 N R94v2) Try.func94 hb94 rfl en94 (by kernel_rfl) (ys := fun _ => some xRF94v2) (fun st y h => by injection h with h; subst h; exact fun lk M => ⟨rfl, rfl⟩) ((fsF94v2 N lk M).symm.trans h)
def cvce94v2n0 : List Cv := []
def selce94v2n0 : St → List Nat := fun st => [(Eng.look st.env 2).id]
noncomputable def ce94v2n0 (Fx : TF94v2) (R : Type) (test : List AV → List Blk → Bool) : CE R := ⟨94, test, fun args M => some (selce94v2n0 ⟨argEnv 0 args, M, [], .unk⟩), fun args M k => tst (Nat.beq args.length 3) (callFn CX 1 cvce94v2n0 sgF94v2 selce94v2n0 (FFF94v2 Fx) elF94v2 args M k)⟩
theorem okce94v2n0 (Fx : TF94v2) (h : RecOkF94v2 Fx) (R : Type) (test : List AV → List Blk → Bool) : CeOk CX (ce94v2n0 Fx R test) := ce_ok hX (fun o k => by cases o; rfl) h en94 (fun args M ids h => by injection h with h; exact ⟨rfl, h.symm⟩)
end Go.Proofs.Ytnfmdenclkdmbaa

namespace Go.Proofs.Ytnfmdenclkdmbaa
open Go Go.Eng
set_option maxRecDepth 100000

/-! ### F72: ceiling/num.operators.4 -/
inductive R72 where
  | r (x0 : Int)
abbrev TF72 := Int → Int → Option R72
def sgF72 : LSh := ⟨[(0, .one (.cell (.int .i64))), (1, .one (.cell (.int .i64)))], []⟩
def FFF72 (Fx : TF72) (s : St) : Option R72 := Fx ((Eng.look s.env 0).toI) ((Eng.look s.env 1).toI)
def valF72 (o : R72) : AV := match o with | .r x0 => .int .i64 x0
def memF72 (o : R72) : List Blk := match o with | .r x0 => []
def elF72 {R : Type} (o : R72) (k : AV → List Blk → Option R) : Option R := match o with | .r x0 => k (.int .i64 x0) []
def RecOkF72 (Fx : TF72) : Prop := ∀ lk M o, FFF72 Fx (canS sgF72 lk M) = some o → FCalls CX 72 0 (argsE 2 (canS sgF72 lk M).env) (canS sgF72 lk M).mem (valF72 o) (memF72 o)
noncomputable def csF72 (N : Nat) (R : Type) : List (CE R) := []
theorem hcsF72 (N : Nat) (R : Type) : AllE (CeOk CX) (csF72 N R) := trivial
noncomputable def T72ur1 (N : Nat) (R : Type) : LTab R := mkTab ⟨8, 255⟩ (csF72 N R) (noY) [] [] []
theorem okT72ur1 (N : Nat) (R : Type) : (T72ur1 N R).Ok CX code72 := mkTab_ok (hcsF72 N R) (noY_ok) (trivial) (trivial) (trivial)
def rsF72 : List ResultVar := [.tmp 4]
def F72 : Nat → TF72
  | 0 => fun _ _ => none
  | N + 1 => fun x0 x1 =>
    tst (!(x1 == 0)) <|
    some (.r (IntKind.wrap .i64 (Int.tdiv x0 x1)))
def xRF72 : XSh R72 := ⟨[], ⟨[(0, .one (.cell (.int .i64)))], []⟩, fun _ => [], fun s => .r ((Eng.look s.env 0).toI)⟩
theorem fsF72 : ∀ (N : Nat) (lk : Nat → AV) (M : List Blk), FFF72 (F72 (N + 1)) (canS sgF72 lk M) = evfn CX (T72ur1 N R72) code72 rsF72 (argsE 2 (canS sgF72 lk M).env) (canS sgF72 lk M).mem (goR CX 0 (fun _ => some xRF72)) := by intro N lk M; kernel_rfl
theorem soundF72 : ∀ N, RecOkF72 (F72 N)
  | 0, lk, M, o, h => by cases h
  | N + 1, lk, M, o, h => fn_sound hX (okT72ur1 N R72) Try.func72 hb72 rfl en72 (by kernel_rfl) (ys := fun _ => some xRF72) (fun st y h => by injection h with h; subst h; exact fun lk M => ⟨rfl, rfl⟩) ((fsF72 N lk M).symm.trans h)
def cvce72n0 : List Cv := []
def selce72n0 : St → List Nat := fun _ => []
noncomputable def ce72n0 (Fx : TF72) (R : Type) (test : List AV → List Blk → Bool) : CE R := ⟨72, test, fun args M => some (selce72n0 ⟨argEnv 0 args, M, [], .unk⟩), fun args M k => tst (Nat.beq args.length 2) (callFn CX 0 cvce72n0 sgF72 selce72n0 (FFF72 Fx) elF72 args M k)⟩
theorem okce72n0 (Fx : TF72) (h : RecOkF72 Fx) (R : Type) (test : List AV → List Blk → Bool) : CeOk CX (ce72n0 Fx R test) := ce_ok hX (fun o k => by cases o; rfl) h en72 (fun args M ids h => by injection h with h; exact ⟨rfl, h.symm⟩)
end Go.Proofs.Ytnfmdenclkdmbaa

namespace Go.Proofs.Ytnfmdenclkdmbaa
open Go Go.Eng
set_option maxRecDepth 100000

/-! ### F95: ceiling/num.division.1 -/
inductive R95 where
  | r (x0 : Int) (x1 : Bool)
abbrev TF95 := Int → Int → Option R95
def sgF95 : LSh := ⟨[(0, .one (.cell (.int .i64))), (1, .one (.cell (.int .i64))), (2, .one (.ptr 0 0 0))], [.var [.any] [.fn 72]]⟩
def FFF95 (Fx : TF95) (s : St) : Option R95 := Fx ((Eng.look s.env 0).toI) ((Eng.look s.env 1).toI)
def valF95 (o : R95) : AV := match o with | .r x0 x1 => .tup [.int .i64 x0, .bool x1]
def memF95 (o : R95) : List Blk := match o with | .r x0 x1 => [.var [.any] [.clos 72 [] []]]
def elF95 {R : Type} (o : R95) (k : AV → List Blk → Option R) : Option R := match o with | .r x0 x1 => k (.tup [.int .i64 x0, .bool x1]) [.var [.any] [.clos 72 [] []]]
def RecOkF95 (Fx : TF95) : Prop := ∀ lk M o, FFF95 Fx (canS sgF95 lk M) = some o → FCalls CX 95 1 (argsE 3 (canS sgF95 lk M).env) (canS sgF95 lk M).mem (valF95 o) (memF95 o)
noncomputable def csF95 (N : Nat) (R : Type) : List (CE R) := [ce72n0 (F72 N) R (fun _ _ => true)]
theorem hcsF95 (N : Nat) (R : Type) : AllE (CeOk CX) (csF95 N R) := ⟨okce72n0 (F72 N) (soundF72 N) R (fun _ _ => true), trivial⟩
noncomputable def T95ur1 (N : Nat) (R : Type) : LTab R := mkTab ⟨13, 8191⟩ (csF95 N R) (noY) [] [] []
theorem okT95ur1 (N : Nat) (R : Type) : (T95ur1 N R).Ok CX code95 := mkTab_ok (hcsF95 N R) (noY_ok) (trivial) (trivial) (trivial)
def rsF95 : List ResultVar := [.tmp 5, .tmp 6]
def F95 : Nat → TF95
  | 0 => fun _ _ => none
  | N + 1 => fun x0 x1 =>
    match x1 == (0 : Int) with
    | true =>
      some (.r 0 false)
    | false =>
      match F72 N x0 x1 with
      | none => none
      | some (.r rx0v1) =>
        some (.r rx0v1 true)
def xRF95 : XSh R95 := ⟨[], ⟨[(0, .one (.cell (.int .i64))), (1, .one (.cell (.bool)))], [.var [.any] [.fn 72]]⟩, fun st => [0], fun s => .r ((Eng.look s.env 0).toI) ((Eng.look s.env 1).toB)⟩
theorem fsF95 : ∀ (N : Nat) (lk : Nat → AV) (M : List Blk), FFF95 (F95 (N + 1)) (canS sgF95 lk M) = evfn CX (T95ur1 N R95) code95 rsF95 (argsE 3 (canS sgF95 lk M).env) (canS sgF95 lk M).mem (goRt CX 1 2 (fun _ => some xRF95)) := by intro N lk M; kernel_rfl
theorem soundF95 : ∀ N, RecOkF95 (F95 N)
  | 0, lk, M, o, h => by cases h
  | N + 1, lk, M, o, h => fn_soundt hX (okT95ur1 N R95) Try.func95 hb95 rfl en95 (by kernel_rfl) (ys := fun _ => some xRF95) (fun st y h => by injection h with h; subst h; exact fun lk M => ⟨rfl, rfl⟩) ((fsF95 N lk M).symm.trans h)
def cvce95n0 : List Cv := []
def selce95n0 : St → List Nat := fun st => [(Eng.look st.env 2).id]
noncomputable def ce95n0 (Fx : TF95) (R : Type) (test : List AV → List Blk → Bool) : CE R := ⟨95, test, fun args M => some (selce95n0 ⟨argEnv 0 args, M, [], .unk⟩), fun args M k => tst (Nat.beq args.length 3) (callFn CX 1 cvce95n0 sgF95 selce95n0 (FFF95 Fx) elF95 args M k)⟩
theorem okce95n0 (Fx : TF95) (h : RecOkF95 Fx) (R : Type) (test : List AV → List Blk → Bool) : CeOk CX (ce95n0 Fx R test) := ce_ok hX (fun o k => by cases o; rfl) h en95 (fun args M ids h => by injection h with h; exact ⟨rfl, h.symm⟩)
end Go.Proofs.Ytnfmdenclkdmbaa

namespace Go.Proofs.Ytnfmdenclkdmbaa
open Go Go.Eng
set_option maxRecDepth 100000

/-! ### F73: ceiling/num.operators.5 -/
inductive R73 where
  | r (x0 : Int)
abbrev TF73 := Int → Int → Option R73
def sgF73 : LSh := ⟨[(0, .one (.cell (.int .i64))), (1, .one (.cell (.int .i64)))], []⟩
def FFF73 (Fx : TF73) (s : St) : Option R73 := Fx ((Eng.look s.env 0).toI) ((Eng.look s.env 1).toI)
def valF73 (o : R73) : AV := match o with | .r x0 => .int .i64 x0
def memF73 (o : R73) : List Blk := match o with | .r x0 => []
def elF73 {R : Type} (o : R73) (k : AV → List Blk → Option R) : Option R := match o with | .r x0 => k (.int .i64 x0) []
def RecOkF73 (Fx : TF73) : Prop := ∀ lk M o, FFF73 Fx (canS sgF73 lk M) = some o → FCalls CX 73 0 (argsE 2 (canS sgF73 lk M).env) (canS sgF73 lk M).mem (valF73 o) (memF73 o)
noncomputable def csF73 (N : Nat) (R : Type) : List (CE R) := []
theorem hcsF73 (N : Nat) (R : Type) : AllE (CeOk CX) (csF73 N R) := trivial
noncomputable def T73ur1 (N : Nat) (R : Type) : LTab R := mkTab ⟨8, 255⟩ (csF73 N R) (noY) [] [] []
theorem okT73ur1 (N : Nat) (R : Type) : (T73ur1 N R).Ok CX code73 := mkTab_ok (hcsF73 N R) (noY_ok) (trivial) (trivial) (trivial)
def rsF73 : List ResultVar := [.tmp 4]
def F73 : Nat → TF73
  | 0 => fun _ _ => none
  | N + 1 => fun x0 x1 =>
    tst (!(x1 == 0)) <|
    some (.r (Int.tmod x0 x1))
def xRF73 : XSh R73 := ⟨[], ⟨[(0, .one (.cell (.int .i64)))], []⟩, fun _ => [], fun s => .r ((Eng.look s.env 0).toI)⟩
theorem fsF73 : ∀ (N : Nat) (lk : Nat → AV) (M : List Blk), FFF73 (F73 (N + 1)) (canS sgF73 lk M) = evfn CX (T73ur1 N R73) code73 rsF73 (argsE 2 (canS sgF73 lk M).env) (canS sgF73 lk M).mem (goR CX 0 (fun _ => some xRF73)) := by intro N lk M; kernel_rfl
theorem soundF73 : ∀ N, RecOkF73 (F73 N)
  | 0, lk, M, o, h => by cases h
  | N + 1, lk, M, o, h => fn_sound hX (okT73ur1 N R73) Try.func73 hb73 rfl en73 (by kernel_rfl) (ys := fun _ => some xRF73) (fun st y h => by injection h with h; subst h; exact fun lk M => ⟨rfl, rfl⟩) ((fsF73 N lk M).symm.trans h)
def cvce73n0 : List Cv := []
def selce73n0 : St → List Nat := fun _ => []
noncomputable def ce73n0 (Fx : TF73) (R : Type) (test : List AV → List Blk → Bool) : CE R := ⟨73, test, fun args M => some (selce73n0 ⟨argEnv 0 args, M, [], .unk⟩), fun args M k => tst (Nat.beq args.length 2) (callFn CX 0 cvce73n0 sgF73 selce73n0 (FFF73 Fx) elF73 args M k)⟩
theorem okce73n0 (Fx : TF73) (h : RecOkF73 Fx) (R : Type) (test : List AV → List Blk → Bool) : CeOk CX (ce73n0 Fx R test) := ce_ok hX (fun o k => by cases o; rfl) h en73 (fun args M ids h => by injection h with h; exact ⟨rfl, h.symm⟩)
end Go.Proofs.Ytnfmdenclkdmbaa

namespace Go.Proofs.Ytnfmdenclkdmbaa
open Go Go.Eng
set_option maxRecDepth 100000

/-! ### F95v1: ceiling/num.division.1 -/
inductive R95v1 where
  | r (x0 : Int) (x1 : Bool)
abbrev TF95v1 := Int → Int → Option R95v1
def sgF95v1 : LSh := ⟨[(0, .one (.cell (.int .i64))), (1, .one (.cell (.int .i64))), (2, .one (.ptr 0 0 0))], [.var [.any] [.fn 73]]⟩
def FFF95v1 (Fx : TF95v1) (s : St) : Option R95v1 := Fx ((Eng.look s.env 0).toI) ((Eng.look s.env 1).toI)
def valF95v1 (o : R95v1) : AV := match o with | .r x0 x1 => .tup [.int .i64 x0, .bool x1]
def memF95v1 (o : R95v1) : List Blk := match o with | .r x0 x1 => [.var [.any] [.clos 73 [] []]]
def elF95v1 {R : Type} (o : R95v1) (k : AV → List Blk → Option R) : Option R := match o with | .r x0 x1 => k (.tup [.int .i64 x0, .bool x1]) [.var [.any] [.clos 73 [] []]]
def RecOkF95v1 (Fx : TF95v1) : Prop := ∀ lk M o, FFF95v1 Fx (canS sgF95v1 lk M) = some o → FCalls CX 95 1 (argsE 3 (canS sgF95v1 lk M).env) (canS sgF95v1 lk M).mem (valF95v1 o) (memF95v1 o)
noncomputable def csF95v1 (N : Nat) (R : Type) : List (CE R) := [ce73n0 (F73 N) R (fun _ _ => true)]
theorem hcsF95v1 (N : Nat) (R : Type) : AllE (CeOk CX) (csF95v1 N R) := ⟨okce73n0 (F73 N) (soundF73 N) R (fun _ _ => true), trivial⟩
noncomputable def T95v1ur1 (N : Nat) (R : Type) : LTab R := mkTab ⟨13, 8191⟩ (csF95v1 N R) (noY) [] [] []
theorem okT95v1ur1 (N : Nat) (R : Type) : (T95v1ur1 N R).Ok CX code95 := mkTab_ok (hcsF95v1 N R) (noY_ok) (trivial) (trivial) (trivial)
def rsF95v1 : List ResultVar := [.tmp 5, .tmp 6]
def F95v1 : Nat → TF95v1
  | 0 => fun _ _ => none
  | N + 1 => fun x0 x1 =>
    match x1 == (0 : Int) with
    | true =>
      some (.r 0 false)
    | false =>
      match F73 N x0 x1 with
      | none => none
      | some (.r rx0v1) =>
        some (.r rx0v1 true)
def xRF95v1 : XSh R95v1 := ⟨[], ⟨[(0, .one (.cell (.int .i64))), (1, .one (.cell (.bool)))], [.var [.any] [.fn 73]]⟩, fun st => [0], fun s => .r ((Eng.look s.env 0).toI) ((Eng.look s.env 1).toB)⟩
theorem fsF95v1 : ∀ (N : Nat) (lk : Nat → AV) (M : List Blk), FFF95v1 (F95v1 (N + 1)) (canS sgF95v1 lk M) = evfn CX (T95v1ur1 N R95v1) code95 rsF95v1 (argsE 3 (canS sgF95v1 lk M).env) (canS sgF95v1 lk M).mem (goRt CX 1 2 (fun _ => some xRF95v1)) := by intro N lk M; kernel_rfl
theorem soundF95v1 : ∀ N, RecOkF95v1 (F95v1 N)
  | 0, lk, M, o, h => by cases h
  | N + 1, lk, M, o, h => fn_soundt hX (okT95v1ur1 N R95v1) Try.func95 hb95 rfl en95 (by kernel_rfl) (ys := fun _ => some xRF95v1) (fun st y h => by injection h with h; subst h; exact fun lk M => ⟨rfl, rfl⟩) ((fsF95v1 N lk M).symm.trans h)
def cvce95v1n0 : List Cv := []
def selce95v1n0 : St → List Nat := fun st => [(Eng.look st.env 2).id]
noncomputable def ce95v1n0 (Fx : TF95v1) (R : Type) (test : List AV → List Blk → Bool) : CE R := ⟨95, test, fun args M => some (selce95v1n0 ⟨argEnv 0 args, M, [], .unk⟩), fun args M k => tst (Nat.beq args.length 3) (callFn CX 1 cvce95v1n0 sgF95v1 selce95v1n0 (FFF95v1 Fx) elF95v1 args M k)⟩
theorem okce95v1n0 (Fx : TF95v1) (h : RecOkF95v1 Fx) (R : Type) (test : List AV → List Blk → Bool) : CeOk CX (ce95v1n0 Fx R test) := ce_ok hX (fun o k => by cases o; rfl) h en95 (fun args M ids h => by injection h with h; exact ⟨rfl, h.symm⟩)
end Go.Proofs.Ytnfmdenclkdmbaa

namespace Go.Proofs.Ytnfmdenclkdmbaa
open Go Go.Eng
set_option maxRecDepth 100000

/-! ### F74: ceiling/num.modulus -/
inductive R74 where
  | r (x0 : Int)
abbrev TF74 := Int → Int → Option R74
def sgF74 : LSh := ⟨[(0, .one (.cell (.int .i64))), (1, .one (.cell (.int .i64)))], []⟩
def FFF74 (Fx : TF74) (s : St) : Option R74 := Fx ((Eng.look s.env 0).toI) ((Eng.look s.env 1).toI)
def valF74 (o : R74) : AV := match o with | .r x0 => .int .i64 x0
def memF74 (o : R74) : List Blk := match o with | .r x0 => []
def elF74 {R : Type} (o : R74) (k : AV → List Blk → Option R) : Option R := match o with | .r x0 => k (.int .i64 x0) []
def RecOkF74 (Fx : TF74) : Prop := ∀ lk M o, FFF74 Fx (canS sgF74 lk M) = some o → FCalls CX 74 0 (argsE 2 (canS sgF74 lk M).env) (canS sgF74 lk M).mem (valF74 o) (memF74 o)
noncomputable def csF74 (N : Nat) (R : Type) : List (CE R) := []
theorem hcsF74 (N : Nat) (R : Type) : AllE (CeOk CX) (csF74 N R) := trivial
noncomputable def T74ur1 (N : Nat) (R : Type) : LTab R := mkTab ⟨23, 8388607⟩ (csF74 N R) (noY) [] [] []
theorem okT74ur1 (N : Nat) (R : Type) : (T74ur1 N R).Ok CX code74 := mkTab_ok (hcsF74 N R) (noY_ok) (trivial) (trivial) (trivial)
def rsF74 : List ResultVar := [.tmp 4]
def F74 : Nat → TF74
  | 0 => fun _ _ => none
  | N + 1 => fun x0 x1 =>
    tst (!(x1 == 0)) <|
    match (Int.tmod x0 x1) == (0 : Int) with
    | true =>
      some (.r (Int.tmod x0 x1))
    | false =>
      match decide ((0 : Int) ≤ (IntKind.wrap .i64 ((BitVec.ofInt 64 (Int.tmod x0 x1) ^^^ BitVec.ofInt 64 x1).toNat : Int))) with
      | true =>
        some (.r (Int.tmod x0 x1))
      | false =>
        tst (!(x1 == 0)) <|
        some (.r (IntKind.wrap .i64 ((Int.tmod x0 x1) + x1)))
def xRF74 : XSh R74 := ⟨[], ⟨[(0, .one (.cell (.int .i64)))], []⟩, fun _ => [], fun s => .r ((Eng.look s.env 0).toI)⟩
theorem fsF74 : ∀ (N : Nat) (lk : Nat → AV) (M : List Blk), FFF74 (F74 (N + 1)) (canS sgF74 lk M) = evfn CX (T74ur1 N R74) code74 rsF74 (argsE 2 (canS sgF74 lk M).env) (canS sgF74 lk M).mem (goR CX 0 (fun _ => some xRF74)) := by intro N lk M; kernel_rfl
theorem soundF74 : ∀ N, RecOkF74 (F74 N)
  | 0, lk, M, o, h => by cases h
  | N + 1, lk, M, o, h => fn_sound hX (okT74ur1 N R74) Try.func74 hb74 rfl en74 (by kernel_rfl) (ys := fun _ => some xRF74) (fun st y h => by injection h with h; subst h; exact fun lk M => ⟨rfl, rfl⟩) ((fsF74 N lk M).symm.trans h)
def cvce74n0 : List Cv := []
def selce74n0 : St → List Nat := fun _ => []
noncomputable def ce74n0 (Fx : TF74) (R : Type) (test : List AV → List Blk → Bool) : CE R := ⟨74, test, fun args M => some (selce74n0 ⟨argEnv 0 args, M, [], .unk⟩), fun args M k => tst (Nat.beq args.length 2) (callFn CX 0 cvce74n0 sgF74 selce74n0 (FFF74 Fx) elF74 args M k)⟩
theorem okce74n0 (Fx : TF74) (h : RecOkF74 Fx) (R : Type) (test : List AV → List Blk → Bool) : CeOk CX (ce74n0 Fx R test) := ce_ok hX (fun o k => by cases o; rfl) h en74 (fun args M ids h => by injection h with h; exact ⟨rfl, h.symm⟩)
end Go.Proofs.Ytnfmdenclkdmbaa

namespace Go.Proofs.Ytnfmdenclkdmbaa
open Go Go.Eng
set_option maxRecDepth 100000

/-! ### F95v2: ceiling/num.division.1 -/
inductive R95v2 where
  | r (x0 : Int) (x1 : Bool)
abbrev TF95v2 := Int → Int → Option R95v2
def sgF95v2 : LSh := ⟨[(0, .one (.cell (.int .i64))), (1, .one (.cell (.int .i64))), (2, .one (.ptr 0 0 0))], [.var [.any] [.fn 74]]⟩
def FFF95v2 (Fx : TF95v2) (s : St) : Option R95v2 := Fx ((Eng.look s.env 0).toI) ((Eng.look s.env 1).toI)
def valF95v2 (o : R95v2) : AV := match o with | .r x0 x1 => .tup [.int .i64 x0, .bool x1]
def memF95v2 (o : R95v2) : List Blk := match o with | .r x0 x1 => [.var [.any] [.clos 74 [] []]]
def elF95v2 {R : Type} (o : R95v2) (k : AV → List Blk → Option R) : Option R := match o with | .r x0 x1 => k (.tup [.int .i64 x0, .bool x1]) [.var [.any] [.clos 74 [] []]]
def RecOkF95v2 (Fx : TF95v2) : Prop := ∀ lk M o, FFF95v2 Fx (canS sgF95v2 lk M) = some o → FCalls CX 95 1 (argsE 3 (canS sgF95v2 lk M).env) (canS sgF95v2 lk M).mem (valF95v2 o) (memF95v2 o)
noncomputable def csF95v2 (N : Nat) (R : Type) : List (CE R) := [ce74n0 (F74 N) R (fun _ _ => true)]
theorem hcsF95v2 (N : Nat) (R : Type) : AllE (CeOk CX) (csF95v2 N R) := ⟨okce74n0 (F74 N) (soundF74 N) R (fun _ _ => true), trivial⟩
noncomputable def T95v2ur1 (N : Nat) (R : Type) : LTab R := mkTab ⟨13, 8191⟩ (csF95v2 N R) (noY) [] [] []
theorem okT95v2ur1 (N : Nat) (R : Type) : (T95v2ur1 N R).Ok CX code95 := mkTab_ok (hcsF95v2 N R) (noY_ok) (trivial) (trivial) (trivial)
def rsF95v2 : List ResultVar := [.tmp 5, .tmp 6]
def F95v2 : Nat → TF95v2
  | 0 => fun _ _ => none
  | N + 1 => fun x0 x1 =>
    match x1 == (0 : Int) with
    | true =>
      some (.r 0 false)
    | false =>
      match F74 N x0 x1 with
      | none => none
      | some (.r rx0v1) =>
        some (.r rx0v1 true)
def xRF95v2 : XSh R95v2 := ⟨[], ⟨[(0, .one (.cell (.int .i64))), (1, .one (.cell (.bool)))], [.var [.any] [.fn 74]]⟩, fun st => [0], fun s => .r ((Eng.look s.env 0).toI) ((Eng.look s.env 1).toB)⟩
theorem fsF95v2 : ∀ (N : Nat) (lk : Nat → AV) (M : List Blk), FFF95v2 (F95v2 (N + 1)) (canS sgF95v2 lk M) = evfn CX (T95v2ur1 N R95v2) code95 rsF95v2 (argsE 3 (canS sgF95v2 lk M).env) (canS sgF95v2 lk M).mem (goRt CX 1 2 (fun _ => some xRF95v2)) := by intro N lk M; kernel_rfl
theorem soundF95v2 : ∀ N, RecOkF95v2 (F95v2 N)
  | 0, lk, M, o, h => by cases h
  | N + 1, lk, M, o, h => fn_soundt hX (okT95v2ur1 N R95v2) Try.func95 hb95 rfl en95 (by kernel_rfl) (ys := fun _ => some xRF95v2) (fun st y h => by injection h with h; subst h; exact fun lk M => ⟨rfl, rfl⟩) ((fsF95v2 N lk M).symm.trans h)
def cvce95v2n0 : List Cv := []
def selce95v2n0 : St → List Nat := fun st => [(Eng.look st.env 2).id]
noncomputable def ce95v2n0 (Fx : TF95v2) (R : Type) (test : List AV → List Blk → Bool) : CE R := ⟨95, test, fun args M => some (selce95v2n0 ⟨argEnv 0 args, M, [], .unk⟩), fun args M k => tst (Nat.beq args.length 3) (callFn CX 1 cvce95v2n0 sgF95v2 selce95v2n0 (FFF95v2 Fx) elF95v2 args M k)⟩
theorem okce95v2n0 (Fx : TF95v2) (h : RecOkF95v2 Fx) (R : Type) (test : List AV → List Blk → Bool) : CeOk CX (ce95v2n0 Fx R test) := ce_ok hX (fun o k => by cases o; rfl) h en95 (fun args M ids h => by injection h with h; exact ⟨rfl, h.symm⟩)
end Go.Proofs.Ytnfmdenclkdmbaa

namespace Go.Proofs.Ytnfmdenclkdmbaa
open Go Go.Eng
set_option maxRecDepth 100000

/-! ### F76: ceiling/num.operators.6 -/
inductive R76 where
  | r (x0 : Bool)
abbrev TF76 := Int → Int → Option R76
def sgF76 : LSh := ⟨[(0, .one (.cell (.int .i64))), (1, .one (.cell (.int .i64)))], []⟩
def FFF76 (Fx : TF76) (s : St) : Option R76 := Fx ((Eng.look s.env 0).toI) ((Eng.look s.env 1).toI)
def valF76 (o : R76) : AV := match o with | .r x0 => .bool x0
def memF76 (o : R76) : List Blk := match o with | .r x0 => []
def elF76 {R : Type} (o : R76) (k : AV → List Blk → Option R) : Option R := match o with | .r x0 => k (.bool x0) []
def RecOkF76 (Fx : TF76) : Prop := ∀ lk M o, FFF76 Fx (canS sgF76 lk M) = some o → FCalls CX 76 0 (argsE 2 (canS sgF76 lk M).env) (canS sgF76 lk M).mem (valF76 o) (memF76 o)
noncomputable def csF76 (N : Nat) (R : Type) : List (CE R) := []
theorem hcsF76 (N : Nat) (R : Type) : AllE (CeOk CX) (csF76 N R) := trivial
noncomputable def T76ur1 (N : Nat) (R : Type) : LTab R := mkTab ⟨8, 255⟩ (csF76 N R) (noY) [] [] []
theorem okT76ur1 (N : Nat) (R : Type) : (T76ur1 N R).Ok CX code76 := mkTab_ok (hcsF76 N R) (noY_ok) (trivial) (trivial) (trivial)
def rsF76 : List ResultVar := [.tmp 4]
def F76 : Nat → TF76
  | 0 => fun _ _ => none
  | N + 1 => fun x0 x1 =>
    some (.r (x0 == x1))
def xRF76 : XSh R76 := ⟨[], ⟨[(0, .one (.cell (.bool)))], []⟩, fun _ => [], fun s => .r ((Eng.look s.env 0).toB)⟩
theorem fsF76 : ∀ (N : Nat) (lk : Nat → AV) (M : List Blk), FFF76 (F76 (N + 1)) (canS sgF76 lk M) = evfn CX (T76ur1 N R76) code76 rsF76 (argsE 2 (canS sgF76 lk M).env) (canS sgF76 lk M).mem (goR CX 0 (fun _ => some xRF76)) := by intro N lk M; kernel_rfl
theorem soundF76 : ∀ N, RecOkF76 (F76 N)
  | 0, lk, M, o, h => by cases h
  | N + 1, lk, M, o, h => fn_sound hX (okT76ur1 N R76) Try.func76 hb76 rfl en76 (by kernel_rfl) (ys := fun _ => some xRF76) (fun st y h => by injection h with h; subst h; exact fun lk M => ⟨rfl, rfl⟩) ((fsF76 N lk M).symm.trans h)
def cvce76n0 : List Cv := []
def selce76n0 : St → List Nat := fun _ => []
noncomputable def ce76n0 (Fx : TF76) (R : Type) (test : List AV → List Blk → Bool) : CE R := ⟨76, test, fun args M => some (selce76n0 ⟨argEnv 0 args, M, [], .unk⟩), fun args M k => tst (Nat.beq args.length 2) (callFn CX 0 cvce76n0 sgF76 selce76n0 (FFF76 Fx) elF76 args M k)⟩
theorem okce76n0 (Fx : TF76) (h : RecOkF76 Fx) (R : Type) (test : List AV → List Blk → Bool) : CeOk CX (ce76n0 Fx R test) := ce_ok hX (fun o k => by cases o; rfl) h en76 (fun args M ids h => by injection h with h; exact ⟨rfl, h.symm⟩)
end Go.Proofs.Ytnfmdenclkdmbaa

namespace Go.Proofs.Ytnfmdenclkdmbaa
open Go Go.Eng
set_option maxRecDepth 100000

/-! ### F91: ceiling/num.truth -/
inductive R91 where
  | r (x0 : Int)
abbrev TF91 := Bool → Option R91
def sgF91 : LSh := ⟨[(0, .one (.cell (.bool)))], []⟩
def FFF91 (Fx : TF91) (s : St) : Option R91 := Fx ((Eng.look s.env 0).toB)
def valF91 (o : R91) : AV := match o with | .r x0 => .int .i64 x0
def memF91 (o : R91) : List Blk := match o with | .r x0 => []
def elF91 {R : Type} (o : R91) (k : AV → List Blk → Option R) : Option R := match o with | .r x0 => k (.int .i64 x0) []
def RecOkF91 (Fx : TF91) : Prop := ∀ lk M o, FFF91 Fx (canS sgF91 lk M) = some o → FCalls CX 91 0 (argsE 1 (canS sgF91 lk M).env) (canS sgF91 lk M).mem (valF91 o) (memF91 o)
noncomputable def csF91 (N : Nat) (R : Type) : List (CE R) := []
theorem hcsF91 (N : Nat) (R : Type) : AllE (CeOk CX) (csF91 N R) := trivial
noncomputable def T91ur1 (N : Nat) (R : Type) : LTab R := mkTab ⟨4, 15⟩ (csF91 N R) (noY) [] [] []
theorem okT91ur1 (N : Nat) (R : Type) : (T91ur1 N R).Ok CX code91 := mkTab_ok (hcsF91 N R) (noY_ok) (trivial) (trivial) (trivial)
def rsF91 : List ResultVar := [.tmp 2]
def F91 : Nat → TF91
  | 0 => fun _ => none
  | N + 1 => fun x0 =>
    match x0 with
    | true =>
      some (.r 1)
    | false =>
      some (.r 0)
def xRF91 : XSh R91 := ⟨[], ⟨[(0, .one (.cell (.int .i64)))], []⟩, fun _ => [], fun s => .r ((Eng.look s.env 0).toI)⟩
theorem fsF91 : ∀ (N : Nat) (lk : Nat → AV) (M : List Blk), FFF91 (F91 (N + 1)) (canS sgF91 lk M) = evfn CX (T91ur1 N R91) code91 rsF91 (argsE 1 (canS sgF91 lk M).env) (canS sgF91 lk M).mem (goR CX 0 (fun _ => some xRF91)) := by intro N lk M; kernel_rfl
theorem soundF91 : ∀ N, RecOkF91 (F91 N)
  | 0, lk, M, o, h => by cases h
  | N + 1, lk, M, o, h => fn_sound hX (okT91ur1 N R91) Try.func91 hb91 rfl en91 (by kernel_rfl) (ys := fun _ => some xRF91) (fun st y h => by injection h with h; subst h; exact fun lk M => ⟨rfl, rfl⟩) ((fsF91 N lk M).symm.trans h)
def cvce91n0 : List Cv := []
def selce91n0 : St → List Nat := fun _ => []
noncomputable def ce91n0 (Fx : TF91) (R : Type) (test : List AV → List Blk → Bool) : CE R := ⟨91, test, fun args M => some (selce91n0 ⟨argEnv 0 args, M, [], .unk⟩), fun args M k => tst (Nat.beq args.length 1) (callFn CX 0 cvce91n0 sgF91 selce91n0 (FFF91 Fx) elF91 args M k)⟩
theorem okce91n0 (Fx : TF91) (h : RecOkF91 Fx) (R : Type) (test : List AV → List Blk → Bool) : CeOk CX (ce91n0 Fx R test) := ce_ok hX (fun o k => by cases o; rfl) h en91 (fun args M ids h => by injection h with h; exact ⟨rfl, h.symm⟩)
end Go.Proofs.Ytnfmdenclkdmbaa

namespace Go.Proofs.Ytnfmdenclkdmbaa
open Go Go.Eng
set_option maxRecDepth 100000

/-! ### F96: ceiling/num.relation.1 -/
inductive R96 where
  | r (x0 : Int) (x1 : Bool)
abbrev TF96 := Int → Int → Option R96
def sgF96 : LSh := ⟨[(0, .one (.cell (.int .i64))), (1, .one (.cell (.int .i64))), (2, .one (.ptr 0 0 0))], [.var [.any] [.fn 76]]⟩
def FFF96 (Fx : TF96) (s : St) : Option R96 := Fx ((Eng.look s.env 0).toI) ((Eng.look s.env 1).toI)
def valF96 (o : R96) : AV := match o with | .r x0 x1 => .tup [.int .i64 x0, .bool x1]
def memF96 (o : R96) : List Blk := match o with | .r x0 x1 => [.var [.any] [.clos 76 [] []]]
def elF96 {R : Type} (o : R96) (k : AV → List Blk → Option R) : Option R := match o with | .r x0 x1 => k (.tup [.int .i64 x0, .bool x1]) [.var [.any] [.clos 76 [] []]]
def RecOkF96 (Fx : TF96) : Prop := ∀ lk M o, FFF96 Fx (canS sgF96 lk M) = some o → FCalls CX 96 1 (argsE 3 (canS sgF96 lk M).env) (canS sgF96 lk M).mem (valF96 o) (memF96 o)
noncomputable def csF96 (N : Nat) (R : Type) : List (CE R) := [ce76n0 (F76 N) R (fun _ _ => true), ce91n0 (F91 N) R (fun _ _ => true)]
theorem hcsF96 (N : Nat) (R : Type) : AllE (CeOk CX) (csF96 N R) := ⟨okce76n0 (F76 N) (soundF76 N) R (fun _ _ => true), okce91n0 (F91 N) (soundF91 N) R (fun _ _ => true), trivial⟩
noncomputable def T96ur1 (N : Nat) (R : Type) : LTab R := mkTab ⟨12, 4095⟩ (csF96 N R) (noY) [] [] []
theorem okT96ur1 (N : Nat) (R : Type) : (T96ur1 N R).Ok CX code96 := mkTab_ok (hcsF96 N R) (noY_ok) (trivial) (trivial) (trivial)
def rsF96 : List ResultVar := [.tmp 5, .tmp 6]
def F96 : Nat → TF96
  | 0 => fun _ _ => none
  | N + 1 => fun x0 x1 =>
    match F76 N x0 x1 with
    | none => none
    | some (.r rx0v1) =>
      match F91 N rx0v1 with
      | none => none
      | some (.r rx0v2) =>
        some (.r rx0v2 true)
def xRF96 : XSh R96 := ⟨[], ⟨[(0, .one (.cell (.int .i64))), (1, .one (.cell (.bool)))], [.var [.any] [.fn 76]]⟩, fun st => [0], fun s => .r ((Eng.look s.env 0).toI) ((Eng.look s.env 1).toB)⟩
theorem fsF96 : ∀ (N : Nat) (lk : Nat → AV) (M : List Blk), FFF96 (F96 (N + 1)) (canS sgF96 lk M) = evfn CX (T96ur1 N R96) code96 rsF96 (argsE 3 (canS sgF96 lk M).env) (canS sgF96 lk M).mem (goRt CX 1 2 (fun _ => some xRF96)) := by intro N lk M; kernel_rfl
theorem soundF96 : ∀ N, RecOkF96 (F96 N)
  | 0, lk, M, o, h => by cases h
  | N + 1, lk, M, o, h => fn_soundt hX (okT96ur1 N R96) Try.func96 hb96 rfl en96 (by kernel_rfl) (ys := fun _ => some xRF96) (fun st y h => by injection h with h; subst h; exact fun lk M => ⟨rfl, rfl⟩) ((fsF96 N lk M).symm.trans h)
def cvce96n0 : List Cv := []
def selce96n0 : St → List Nat := fun st => [(Eng.look st.env 2).id]
noncomputable def ce96n0 (Fx : TF96) (R : Type) (test : List AV → List Blk → Bool) : CE R := ⟨96, test, fun args M => some (selce96n0 ⟨argEnv 0 args, M, [], .unk⟩), fun args M k => tst (Nat.beq args.length 3) (callFn CX 1 cvce96n0 sgF96 selce96n0 (FFF96 Fx) elF96 args M k)⟩
theorem okce96n0 (Fx : TF96) (h : RecOkF96 Fx) (R : Type) (test : List AV → List Blk → Bool) : CeOk CX (ce96n0 Fx R test) := ce_ok hX (fun o k => by cases o; rfl) h en96 (fun args M ids h => by injection h with h; exact ⟨rfl, h.symm⟩)
end Go.Proofs.Ytnfmdenclkdmbaa

namespace Go.Proofs.Ytnfmdenclkdmbaa
open Go Go.Eng
set_option maxRecDepth 100000

/-! ### F77: ceiling/num.operators.7 -/
inductive R77 where
  | r (x0 : Bool)
abbrev TF77 := Int → Int → Option R77
def sgF77 : LSh := ⟨[(0, .one (.cell (.int .i64))), (1, .one (.cell (.int .i64)))], []⟩
def FFF77 (Fx : TF77) (s : St) : Option R77 := Fx ((Eng.look s.env 0).toI) ((Eng.look s.env 1).toI)
def valF77 (o : R77) : AV := match o with | .r x0 => .bool x0
def memF77 (o : R77) : List Blk := match o with | .r x0 => []
def elF77 {R : Type} (o : R77) (k : AV → List Blk → Option R) : Option R := match o with | .r x0 => k (.bool x0) []
def RecOkF77 (Fx : TF77) : Prop := ∀ lk M o, FFF77 Fx (canS sgF77 lk M) = some o → FCalls CX 77 0 (argsE 2 (canS sgF77 lk M).env) (canS sgF77 lk M).mem (valF77 o) (memF77 o)
noncomputable def csF77 (N : Nat) (R : Type) : List (CE R) := []
theorem hcsF77 (N : Nat) (R : Type) : AllE (CeOk CX) (csF77 N R) := trivial
noncomputable def T77ur1 (N : Nat) (R : Type) : LTab R := mkTab ⟨8, 255⟩ (csF77 N R) (noY) [] [] []
theorem okT77ur1 (N : Nat) (R : Type) : (T77ur1 N R).Ok CX code77 := mkTab_ok (hcsF77 N R) (noY_ok) (trivial) (trivial) (trivial)
def rsF77 : List ResultVar := [.tmp 4]
def F77 : Nat → TF77
  | 0 => fun _ _ => none
  | N + 1 => fun x0 x1 =>
    some (.r (x0 != x1))
def xRF77 : XSh R77 := ⟨[], ⟨[(0, .one (.cell (.bool)))], []⟩, fun _ => [], fun s => .r ((Eng.look s.env 0).toB)⟩
theorem fsF77 : ∀ (N : Nat) (lk : Nat → AV) (M : List Blk), FFF77 (F77 (N + 1)) (canS sgF77 lk M) = evfn CX (T77ur1 N R77) code77 rsF77 (argsE 2 (canS sgF77 lk M).env) (canS sgF77 lk M).mem (goR CX 0 (fun _ => some xRF77)) := by intro N lk M; kernel_rfl
theorem soundF77 : ∀ N, RecOkF77 (F77 N)
  | 0, lk, M, o, h => by cases h
  | N + 1, lk, M, o, h => fn_sound hX (okT77ur1 N R77) Try.func77 hb77 rfl en77 (by kernel_rfl) (ys := fun _ => some xRF77) (fun st y h => by injection h with h; subst h; exact fun lk M => ⟨rfl, rfl⟩) ((fsF77 N lk M).symm.trans h)
def cvce77n0 : List Cv := []
def selce77n0 : St → List Nat := fun _ => []
noncomputable def ce77n0 (Fx : TF77) (R : Type) (test : List AV → List Blk → Bool) : CE R := ⟨77, test, fun args M => some (selce77n0 ⟨argEnv 0 args, M, [], .unk⟩), fun args M k => tst (Nat.beq args.length 2) (callFn CX 0 cvce77n0 sgF77 selce77n0 (FFF77 Fx) elF77 args M k)⟩
theorem okce77n0 (Fx : TF77) (h : RecOkF77 Fx) (R : Type) (test : List AV → List Blk → Bool) : CeOk CX (ce77n0 Fx R test) := ce_ok hX (fun o k => by cases o; rfl) h en77 (fun args M ids h => by injection h with h; exact ⟨rfl, h.symm⟩)
end Go.Proofs.Ytnfmdenclkdmbaa

namespace Go.Proofs.Ytnfmdenclkdmbaa
open Go Go.Eng
set_option maxRecDepth 100000

/-! ### F96v1: ceiling/num.relation.1 -/
inductive R96v1 where
  | r (x0 : Int) (x1 : Bool)
abbrev TF96v1 := Int → Int → Option R96v1
def sgF96v1 : LSh := ⟨[(0, .one (.cell (.int .i64))), (1, .one (.cell (.int .i64))), (2, .one (.ptr 0 0 0))], [.var [.any] [.fn 77]]⟩
def FFF96v1 (Fx : TF96v1) (s : St) : Option R96v1 := Fx ((Eng.look s.env 0).toI) ((Eng.look s.env 1).toI)
def valF96v1 (o : R96v1) : AV := match o with | .r x0 x1 => .tup [.int .i64 x0, .bool x1]
def memF96v1 (o : R96v1) : List Blk := match o with | .r x0 x1 => [.var [.any] [.clos 77 [] []]]
def elF96v1 {R : Type} (o : R96v1) (k : AV → List Blk → Option R) : Option R := match o with | .r x0 x1 => k (.tup [.int .i64 x0, .bool x1]) [.var [.any] [.clos 77 [] []]]
def RecOkF96v1 (Fx : TF96v1) : Prop := ∀ lk M o, FFF96v1 Fx (canS sgF96v1 lk M) = some o → FCalls CX 96 1 (argsE 3 (canS sgF96v1 lk M).env) (canS sgF96v1 lk M).mem (valF96v1 o) (memF96v1 o)
noncomputable def csF96v1 (N : Nat) (R : Type) : List (CE R) := [ce77n0 (F77 N) R (fun _ _ => true), ce91n0 (F91 N) R (fun _ _ => true)]
theorem hcsF96v1 (N : Nat) (R : Type) : AllE (CeOk CX) (csF96v1 N R) := ⟨okce77n0 (F77 N) (soundF77 N) R (fun _ _ => true), okce91n0 (F91 N) (soundF91 N) R (fun _ _ => true), trivial⟩
noncomputable def T96v1ur1 (N : Nat) (R : Type) : LTab R := mkTab ⟨12, 4095⟩ (csF96v1 N R) (noY) [] [] []
theorem okT96v1ur1 (N : Nat) (R : Type) : (T96v1ur1 N R).Ok CX code96 := mkTab_ok (hcsF96v1 N R) (noY_ok) (trivial) (trivial) (trivial)
def rsF96v1 : List ResultVar := [.tmp 5, .tmp 6]
def F96v1 : Nat → TF96v1
  | 0 => fun _ _ => none
  | N + 1 => fun x0 x1 =>
    match F77 N x0 x1 with
    | none => none
    | some (.r rx0v1) =>
      match F91 N rx0v1 with
      | none => none
      | some (.r rx0v2) =>
        some (.r rx0v2 true)
def xRF96v1 : XSh R96v1 := ⟨[], ⟨[(0, .one (.cell (.int .i64))), (1, .one (.cell (.bool)))], [.var [.any] [.fn 77]]⟩, fun st => [0], fun s => .r ((Eng.look s.env 0).toI) ((Eng.look s.env 1).toB)⟩
theorem fsF96v1 : ∀ (N : Nat) (lk : Nat → AV) (M : List Blk), FFF96v1 (F96v1 (N + 1)) (canS sgF96v1 lk M) = evfn CX (T96v1ur1 N R96v1) code96 rsF96v1 (argsE 3 (canS sgF96v1 lk M).env) (canS sgF96v1 lk M).mem (goRt CX 1 2 (fun _ => some xRF96v1)) := by intro N lk M; kernel_rfl
theorem soundF96v1 : ∀ N, RecOkF96v1 (F96v1 N)
  | 0, lk, M, o, h => by cases h
  | N + 1, lk, M, o, h => fn_soundt hX (okT96v1ur1 N R96v1) Try.func96 hb96 rfl en96 (by kernel_rfl) (ys := fun _ => some xRF96v1) (fun st y h => by injection h with h; subst h; exact fun lk M => ⟨rfl, rfl⟩) ((fsF96v1 N lk M).symm.trans h)
def cvce96v1n0 : List Cv := []
def selce96v1n0 : St → List Nat := fun st => [(Eng.look st.env 2).id]
noncomputable def ce96v1n0 (Fx : TF96v1) (R : Type) (test : List AV → List Blk → Bool) : CE R := ⟨96, test, fun args M => some (selce96v1n0 ⟨argEnv 0 args, M, [], .unk⟩), fun args M k => tst (Nat.beq args.length 3) (callFn CX 1 cvce96v1n0 sgF96v1 selce96v1n0 (FFF96v1 Fx) elF96v1 args M k)⟩
theorem okce96v1n0 (Fx : TF96v1) (h : RecOkF96v1 Fx) (R : Type) (test : List AV → List Blk → Bool) : CeOk CX (ce96v1n0 Fx R test) := ce_ok hX (fun o k => by cases o; rfl) h en96 (fun args M ids h => by injection h with h; exact ⟨rfl, h.symm⟩)
end Go.Proofs.Ytnfmdenclkdmbaa

namespace Go.Proofs.Ytnfmdenclkdmbaa
open Go Go.Eng
set_option maxRecDepth 100000

/-! ### F78: ceiling/num.operators.8 -/
inductive R78 where
  | r (x0 : Bool)
abbrev TF78 := Int → Int → Option R78
def sgF78 : LSh := ⟨[(0, .one (.cell (.int .i64))), (1, .one (.cell (.int .i64)))], []⟩
def FFF78 (Fx : TF78) (s : St) : Option R78 := Fx ((Eng.look s.env 0).toI) ((Eng.look s.env 1).toI)
def valF78 (o : R78) : AV := match o with | .r x0 => .bool x0
def memF78 (o : R78) : List Blk := match o with | .r x0 => []
def elF78 {R : Type} (o : R78) (k : AV → List Blk → Option R) : Option R := match o with | .r x0 => k (.bool x0) []
def RecOkF78 (Fx : TF78) : Prop := ∀ lk M o, FFF78 Fx (canS sgF78 lk M) = some o → FCalls CX 78 0 (argsE 2 (canS sgF78 lk M).env) (canS sgF78 lk M).mem (valF78 o) (memF78 o)
noncomputable def csF78 (N : Nat) (R : Type) : List (CE R) := []
theorem hcsF78 (N : Nat) (R : Type) : AllE (CeOk CX) (csF78 N R) := trivial
noncomputable def T78ur1 (N : Nat) (R : Type) : LTab R := mkTab ⟨8, 255⟩ (csF78 N R) (noY) [] [] []
theorem okT78ur1 (N : Nat) (R : Type) : (T78ur1 N R).Ok CX code78 := mkTab_ok (hcsF78 N R) (noY_ok) (trivial) (trivial) (trivial)
def rsF78 : List ResultVar := [.tmp 4]
def F78 : Nat → TF78
  | 0 => fun _ _ => none
  | N + 1 => fun x0 x1 =>
    some (.r (decide (x0 < x1)))
def xRF78 : XSh R78 := ⟨[], ⟨[(0, .one (.cell (.bool)))], []⟩, fun _ => [], fun s => .r ((Eng.look s.env 0).toB)⟩
theorem fsF78 : ∀ (N : Nat) (lk : Nat → AV) (M : List Blk), FFF78 (F78 (N + 1)) (canS sgF78 lk M) = evfn CX (T78ur1 N R78) code78 rsF78 (argsE 2 (canS sgF78 lk M).env) (canS sgF78 lk M).mem (goR CX 0 (fun _ => some xRF78)) := by intro N lk M; kernel_rfl
theorem soundF78 : ∀ N, RecOkF78 (F78 N)
  | 0, lk, M, o, h => by cases h
  | N + 1, lk, M, o, h => fn_sound hX (okT78ur1 N R78) Try.func78 hb78 rfl en78 (by kernel_rfl) (ys := fun _ => some xRF78) (fun st y h => by injection h with h; subst h; exact fun lk M => ⟨rfl, rfl⟩) ((fsF78 N lk M).symm.trans h)
def cvce78n0 : List Cv := []
def selce78n0 : St → List Nat := fun _ => []
noncomputable def ce78n0 (Fx : TF78) (R : Type) (test : List AV → List Blk → Bool) : CE R := ⟨78, test, fun args M => some (selce78n0 ⟨argEnv 0 args, M, [], .unk⟩), fun args M k => tst (Nat.beq args.length 2) (callFn CX 0 cvce78n0 sgF78 selce78n0 (FFF78 Fx) elF78 args M k)⟩
theorem okce78n0 (Fx : TF78) (h : RecOkF78 Fx) (R : Type) (test : List AV → List Blk → Bool) : CeOk CX (ce78n0 Fx R test) := ce_ok hX (fun o k => by cases o; rfl) h en78 (fun args M ids h => by injection h with h; exact ⟨rfl, h.symm⟩)
end Go.Proofs.Ytnfmdenclkdmbaa

namespace Go.Proofs.Ytnfmdenclkdmbaa
open Go Go.Eng
set_option maxRecDepth 100000

/-! ### F96v2: ceiling/num.relation.1 -/
inductive R96v2 where
  | r (x0 : Int) (x1 : Bool)
abbrev TF96v2 := Int → Int → Option R96v2
def sgF96v2 : LSh := ⟨[(0, .one (.cell (.int .i64))), (1, .one (.cell (.int .i64))), (2, .one (.ptr 0 0 0))], [.var [.any] [.fn 78]]⟩
def FFF96v2 (Fx : TF96v2) (s : St) : Option R96v2 := Fx ((Eng.look s.env 0).toI) ((Eng.look s.env 1).toI)
def valF96v2 (o : R96v2) : AV := match o with | .r x0 x1 => .tup [.int .i64 x0, .bool x1]
def memF96v2 (o : R96v2) : List Blk := match o with | .r x0 x1 => [.var [.any] [.clos 78 [] []]]
def elF96v2 {R : Type} (o : R96v2) (k : AV → List Blk → Option R) : Option R := match o with | .r x0 x1 => k (.tup [.int .i64 x0, .bool x1]) [.var [.any] [.clos 78 [] []]]
def RecOkF96v2 (Fx : TF96v2) : Prop := ∀ lk M o, FFF96v2 Fx (canS sgF96v2 lk M) = some o → FCalls CX 96 1 (argsE 3 (canS sgF96v2 lk M).env) (canS sgF96v2 lk M).mem (valF96v2 o) (memF96v2 o)
noncomputable def csF96v2 (N : Nat) (R : Type) : List (CE R) := [ce78n0 (F78 N) R (fun _ _ => true), ce91n0 (F91 N) R (fun _ _ => true)]
theorem hcsF96v2 (N : Nat) (R : Type) : AllE (CeOk CX) (csF96v2 N R) := ⟨okce78n0 (F78 N) (soundF78 N) R (fun _ _ => true), okce91n0 (F91 N) (soundF91 N) R (fun _ _ => true), trivial⟩
noncomputable def T96v2ur1 (N : Nat) (R : Type) : LTab R := mkTab ⟨12, 4095⟩ (csF96v2 N R) (noY) [] [] []
theorem okT96v2ur1 (N : Nat) (R : Type) : (T96v2ur1 N R).Ok CX code96 := mkTab_ok (hcsF96v2 N R) (noY_ok) (trivial) (trivial) (trivial)
def rsF96v2 : List ResultVar := [.tmp 5, .tmp 6]
def F96v2 : Nat → TF96v2
  | 0 => fun _ _ => none
  | N + 1 => fun x0 x1 =>
    match F78 N x0 x1 with
    | none => none
    | some (.r rx0v1) =>
      match F91 N rx0v1 with
      | none => none
      | some (.r rx0v2) =>
        some (.r rx0v2 true)
def xRF96v2 : XSh R96v2 := ⟨[], ⟨[(0, .one (.cell (.int .i64))), (1, .one (.cell (.bool)))], [.var [.any] [.fn 78]]⟩, fun st => [0], fun s => .r ((Eng.look s.env 0).toI) ((Eng.look s.env 1).toB)⟩
theorem fsF96v2 : ∀ (N : Nat) (lk : Nat → AV) (M : List Blk), FFF96v2 (F96v2 (N + 1)) (canS sgF96v2 lk M) = evfn CX (T96v2ur1 N R96v2) code96 rsF96v2 (argsE 3 (canS sgF96v2 lk M).env) (canS sgF96v2 lk M).mem (goRt CX 1 2 (fun _ => some xRF96v2)) := by intro N lk M; kernel_rfl
theorem soundF96v2 : ∀ N, RecOkF96v2 (F96v2 N)
  | 0, lk, M, o, h => by cases h
  | N + 1, lk, M, o, h => fn_soundt hX (okT96v2ur1 N R96v2) Try.func96 hb96 rfl en96 (by kernel_rfl) (ys := fun _ => some xRF96v2) (fun st y h => by injection h with h; subst h; exact fun lk M => ⟨rfl, rfl⟩) ((fsF96v2 N lk M).symm.trans h)
def cvce96v2n0 : List Cv := []
def selce96v2n0 : St → List Nat := fun st => [(Eng.look st.env 2).id]
noncomputable def ce96v2n0 (Fx : TF96v2) (R : Type) (test : List AV → List Blk → Bool) : CE R := ⟨96, test, fun args M => some (selce96v2n0 ⟨argEnv 0 args, M, [], .unk⟩), fun args M k => tst (Nat.beq args.length 3) (callFn CX 1 cvce96v2n0 sgF96v2 selce96v2n0 (FFF96v2 Fx) elF96v2 args M k)⟩
theorem okce96v2n0 (Fx : TF96v2) (h : RecOkF96v2 Fx) (R : Type) (test : List AV → List Blk → Bool) : CeOk CX (ce96v2n0 Fx R test) := ce_ok hX (fun o k => by cases o; rfl) h en96 (fun args M ids h => by injection h with h; exact ⟨rfl, h.symm⟩)
end Go.Proofs.Ytnfmdenclkdmbaa

namespace Go.Proofs.Ytnfmdenclkdmbaa
open Go Go.Eng
set_option maxRecDepth 100000

/-! ### F79: ceiling/num.operators.9 -/
inductive R79 where
  | r (x0 : Bool)
abbrev TF79 := Int → Int → Option R79
def sgF79 : LSh := ⟨[(0, .one (.cell (.int .i64))), (1, .one (.cell (.int .i64)))], []⟩
def FFF79 (Fx : TF79) (s : St) : Option R79 := Fx ((Eng.look s.env 0).toI) ((Eng.look s.env 1).toI)
def valF79 (o : R79) : AV := match o with | .r x0 => .bool x0
def memF79 (o : R79) : List Blk := match o with | .r x0 => []
def elF79 {R : Type} (o : R79) (k : AV → List Blk → Option R) : Option R := match o with | .r x0 => k (.bool x0) []
def RecOkF79 (Fx : TF79) : Prop := ∀ lk M o, FFF79 Fx (canS sgF79 lk M) = some o → FCalls CX 79 0 (argsE 2 (canS sgF79 lk M).env) (canS sgF79 lk M).mem (valF79 o) (memF79 o)
noncomputable def csF79 (N : Nat) (R : Type) : List (CE R) := []
theorem hcsF79 (N : Nat) (R : Type) : AllE (CeOk CX) (csF79 N R) := trivial
noncomputable def T79ur1 (N : Nat) (R : Type) : LTab R := mkTab ⟨8, 255⟩ (csF79 N R) (noY) [] [] []
theorem okT79ur1 (N : Nat) (R : Type) : (T79ur1 N R).Ok CX code79 := mkTab_ok (hcsF79 N R) (noY_ok) (trivial) (trivial) (trivial)
def rsF79 : List ResultVar := [.tmp 4]
def F79 : Nat → TF79
  | 0 => fun _ _ => none
  | N + 1 => fun x0 x1 =>
    some (.r (decide (x0 ≤ x1)))
def xRF79 : XSh R79 := ⟨[], ⟨[(0, .one (.cell (.bool)))], []⟩, fun _ => [], fun s => .r ((Eng.look s.env 0).toB)⟩
theorem fsF79 : ∀ (N : Nat) (lk : Nat → AV) (M : List Blk), FFF79 (F79 (N + 1)) (canS sgF79 lk M) = evfn CX (T79ur1 N R79) code79 rsF79 (argsE 2 (canS sgF79 lk M).env) (canS sgF79 lk M).mem (goR CX 0 (fun _ => some xRF79)) := by intro N lk M; kernel_rfl
theorem soundF79 : ∀ N, RecOkF79 (F79 N)
  | 0, lk, M, o, h => by cases h
  | N + 1, lk, M, o, h => fn_sound hX (okT79ur1 N R79) Try.func79 hb79 rfl en79 (by kernel_rfl) (ys := fun _ => some xRF79) (fun st y h => by injection h with h; subst h; exact fun lk M => ⟨rfl, rfl⟩) ((fsF79 N lk M).symm.trans h)
def cvce79n0 : List Cv := []
def selce79n0 : St → List Nat := fun _ => []
noncomputable def ce79n0 (Fx : TF79) (R : Type) (test : List AV → List Blk → Bool) : CE R := ⟨79, test, fun args M => some (selce79n0 ⟨argEnv 0 args, M, [], .unk⟩), fun args M k => tst (Nat.beq args.length 2) (callFn CX 0 cvce79n0 sgF79 selce79n0 (FFF79 Fx) elF79 args M k)⟩
theorem okce79n0 (Fx : TF79) (h : RecOkF79 Fx) (R : Type) (test : List AV → List Blk → Bool) : CeOk CX (ce79n0 Fx R test) := ce_ok hX (fun o k => by cases o; rfl) h en79 (fun args M ids h => by injection h with h; exact ⟨rfl, h.symm⟩)
end Go.Proofs.Ytnfmdenclkdmbaa

namespace Go.Proofs.Ytnfmdenclkdmbaa
open Go Go.Eng
set_option maxRecDepth 100000

/-! ### F96v3: ceiling/num.relation.1 -/
inductive R96v3 where
  | r (x0 : Int) (x1 : Bool)
abbrev TF96v3 := Int → Int → Option R96v3
def sgF96v3 : LSh := ⟨[(0, .one (.cell (.int .i64))), (1, .one (.cell (.int .i64))), (2, .one (.ptr 0 0 0))], [.var [.any] [.fn 79]]⟩
def FFF96v3 (Fx : TF96v3) (s : St) : Option R96v3 := Fx ((Eng.look s.env 0).toI) ((Eng.look s.env 1).toI)
def valF96v3 (o : R96v3) : AV := match o with | .r x0 x1 => .tup [.int .i64 x0, .bool x1]
def memF96v3 (o : R96v3) : List Blk := match o with | .r x0 x1 => [.var [.any] [.clos 79 [] []]]
def elF96v3 {R : Type} (o : R96v3) (k : AV → List Blk → Option R) : Option R := match o with | .r x0 x1 => k (.tup [.int .i64 x0, .bool x1]) [.var [.any] [.clos 79 [] []]]
def RecOkF96v3 (Fx : TF96v3) : Prop := ∀ lk M o, FFF96v3 Fx (canS sgF96v3 lk M) = some o → FCalls CX 96 1 (argsE 3 (canS sgF96v3 lk M).env) (canS sgF96v3 lk M).mem (valF96v3 o) (memF96v3 o)
noncomputable def csF96v3 (N : Nat) (R : Type) : List (CE R) := [ce79n0 (F79 N) R (fun _ _ => true), ce91n0 (F91 N) R (fun _ _ => true)]
theorem hcsF96v3 (N : Nat) (R : Type) : AllE (CeOk CX) (csF96v3 N R) := ⟨okce79n0 (F79 N) (soundF79 N) R (fun _ _ => true), okce91n0 (F91 N) (soundF91 N) R (fun _ _ => true), trivial⟩
noncomputable def T96v3ur1 (N : Nat) (R : Type) : LTab R := mkTab ⟨12, 4095⟩ (csF96v3 N R) (noY) [] [] []
theorem okT96v3ur1 (N : Nat) (R : Type) : (T96v3ur1 N R).Ok CX code96 := mkTab_ok (hcsF96v3 N R) (noY_ok) (trivial) (trivial) (trivial)
def rsF96v3 : List ResultVar := [.tmp 5, .tmp 6]
def F96v3 : Nat → TF96v3
  | 0 => fun _ _ => none
  | N + 1 => fun x0 x1 =>
    match F79 N x0 x1 with
    | none => none
    | some (.r rx0v1) =>
      match F91 N rx0v1 with
      | none => none
      | some (.r rx0v2) =>
        some (.r rx0v2 true)
def xRF96v3 : XSh R96v3 := ⟨[], ⟨[(0, .one (.cell (.int .i64))), (1, .one (.cell (.bool)))], [.var [.any] [.fn 79]]⟩, fun st => [0], fun s => .r ((Eng.look s.env 0).toI) ((Eng.look s.env 1).toB)⟩
theorem fsF96v3 : ∀ (N : Nat) (lk : Nat → AV) (M : List Blk), FFF96v3 (F96v3 (N + 1)) (canS sgF96v3 lk M) = evfn CX (T96v3ur1 N R96v3) code96 rsF96v3 (argsE 3 (canS sgF96v3 lk M).env) (canS sgF96v3 lk M).mem (goRt CX 1 2 (fun _ => some xRF96v3)) := by intro N lk M; kernel_rfl
theorem soundF96v3 : ∀ N, RecOkF96v3 (F96v3 N)
  | 0, lk, M, o, h => by cases h
  | N + 1, lk, M, o, h => fn_soundt hX (okT96v3ur1 N R96v3) Try.func96 hb96 rfl en96 (by kernel_rfl) (ys := fun _ => some xRF96v3) (fun st y h => by injection h with h; subst h; exact fun lk M => ⟨rfl, rfl⟩) ((fsF96v3 N lk M).symm.trans h)
def cvce96v3n0 : List Cv := []
def selce96v3n0 : St → List Nat := fun st => [(Eng.look st.env 2).id]
noncomputable def ce96v3n0 (Fx : TF96v3) (R : Type) (test : List AV → List Blk → Bool) : CE R := ⟨96, test, fun args M => some (selce96v3n0 ⟨argEnv 0 args, M, [], .unk⟩), fun args M k => tst (Nat.beq args.length 3) (callFn CX 1 cvce96v3n0 sgF96v3 selce96v3n0 (FFF96v3 Fx) elF96v3 args M k)⟩
theorem okce96v3n0 (Fx : TF96v3) (h : RecOkF96v3 Fx) (R : Type) (test : List AV → List Blk → Bool) : CeOk CX (ce96v3n0 Fx R test) := ce_ok hX (fun o k => by cases o; rfl) h en96 (fun args M ids h => by injection h with h; exact ⟨rfl, h.symm⟩)
end Go.Proofs.Ytnfmdenclkdmbaa

namespace Go.Proofs.Ytnfmdenclkdmbaa
open Go Go.Eng
set_option maxRecDepth 100000

/-! ### F80: ceiling/num.operators.10 -/
inductive R80 where
  | r (x0 : Bool)
abbrev TF80 := Int → Int → Option R80
def sgF80 : LSh := ⟨[(0, .one (.cell (.int .i64))), (1, .one (.cell (.int .i64)))], []⟩
def FFF80 (Fx : TF80) (s : St) : Option R80 := Fx ((Eng.look s.env 0).toI) ((Eng.look s.env 1).toI)
def valF80 (o : R80) : AV := match o with | .r x0 => .bool x0
def memF80 (o : R80) : List Blk := match o with | .r x0 => []
def elF80 {R : Type} (o : R80) (k : AV → List Blk → Option R) : Option R := match o with | .r x0 => k (.bool x0) []
def RecOkF80 (Fx : TF80) : Prop := ∀ lk M o, FFF80 Fx (canS sgF80 lk M) = some o → FCalls CX 80 0 (argsE 2 (canS sgF80 lk M).env) (canS sgF80 lk M).mem (valF80 o) (memF80 o)
noncomputable def csF80 (N : Nat) (R : Type) : List (CE R) := []
theorem hcsF80 (N : Nat) (R : Type) : AllE (CeOk CX) (csF80 N R) := trivial
noncomputable def T80ur1 (N : Nat) (R : Type) : LTab R := mkTab ⟨8, 255⟩ (csF80 N R) (noY) [] [] []
theorem okT80ur1 (N : Nat) (R : Type) : (T80ur1 N R).Ok CX code80 := mkTab_ok (hcsF80 N R) (noY_ok) (trivial) (trivial) (trivial)
def rsF80 : List ResultVar := [.tmp 4]
def F80 : Nat → TF80
  | 0 => fun _ _ => none
  | N + 1 => fun x0 x1 =>
    some (.r (decide (x1 < x0)))
def xRF80 : XSh R80 := ⟨[], ⟨[(0, .one (.cell (.bool)))], []⟩, fun _ => [], fun s => .r ((Eng.look s.env 0).toB)⟩
theorem fsF80 : ∀ (N : Nat) (lk : Nat → AV) (M : List Blk), FFF80 (F80 (N + 1)) (canS sgF80 lk M) = evfn CX (T80ur1 N R80) code80 rsF80 (argsE 2 (canS sgF80 lk M).env) (canS sgF80 lk M).mem (goR CX 0 (fun _ => some xRF80)) := by intro N lk M; kernel_rfl
theorem soundF80 : ∀ N, RecOkF80 (F80 N)
  | 0, lk, M, o, h => by cases h
  | N + 1, lk, M, o, h => fn_sound hX (okT80ur1 N R80) Try.func80 hb80 rfl en80 (by kernel_rfl) (ys := fun _ => some xRF80) (fun st y h => by injection h with h; subst h; exact fun lk M => ⟨rfl, rfl⟩) ((fsF80 N lk M).symm.trans h)
def cvce80n0 : List Cv := []
def selce80n0 : St → List Nat := fun _ => []
noncomputable def ce80n0 (Fx : TF80) (R : Type) (test : List AV → List Blk → Bool) : CE R := ⟨80, test, fun args M => some (selce80n0 ⟨argEnv 0 args, M, [], .unk⟩), fun args M k => tst (Nat.beq args.length 2) (callFn CX 0 cvce80n0 sgF80 selce80n0 (FFF80 Fx) elF80 args M k)⟩
theorem okce80n0 (Fx : TF80) (h : RecOkF80 Fx) (R : Type) (test : List AV → List Blk → Bool) : CeOk CX (ce80n0 Fx R test) := ce_ok hX (fun o k => by cases o; rfl) h en80 (fun args M ids h => by injection h with h; exact ⟨rfl, h.symm⟩)
end Go.Proofs.Ytnfmdenclkdmbaa

namespace Go.Proofs.Ytnfmdenclkdmbaa
open Go Go.Eng
set_option maxRecDepth 100000

/-! ### F96v4: ceiling/num.relation.1 -/
inductive R96v4 where
  | r (x0 : Int) (x1 : Bool)
abbrev TF96v4 := Int → Int → Option R96v4
def sgF96v4 : LSh := ⟨[(0, .one (.cell (.int .i64))), (1, .one (.cell (.int .i64))), (2, .one (.ptr 0 0 0))], [.var [.any] [.fn 80]]⟩
def FFF96v4 (Fx : TF96v4) (s : St) : Option R96v4 := Fx ((Eng.look s.env 0).toI) ((Eng.look s.env 1).toI)
def valF96v4 (o : R96v4) : AV := match o with | .r x0 x1 => .tup [.int .i64 x0, .bool x1]
def memF96v4 (o : R96v4) : List Blk := match o with | .r x0 x1 => [.var [.any] [.clos 80 [] []]]
def elF96v4 {R : Type} (o : R96v4) (k : AV → List Blk → Option R) : Option R := match o with | .r x0 x1 => k (.tup [.int .i64 x0, .bool x1]) [.var [.any] [.clos 80 [] []]]
def RecOkF96v4 (Fx : TF96v4) : Prop := ∀ lk M o, FFF96v4 Fx (canS sgF96v4 lk M) = some o → FCalls CX 96 1 (argsE 3 (canS sgF96v4 lk M).env) (canS sgF96v4 lk M).mem (valF96v4 o) (memF96v4 o)
noncomputable def csF96v4 (N : Nat) (R : Type) : List (CE R) := [ce80n0 (F80 N) R (fun _ _ => true), ce91n0 (F91 N) R (fun _ _ => true)]
theorem hcsF96v4 (N : Nat) (R : Type) : AllE (CeOk CX) (csF96v4 N R) := ⟨okce80n0 (F80 N) (soundF80 N) R (fun _ _ => true), okce91n0 (F91 N) (soundF91 N) R (fun _ _ => true), trivial⟩
noncomputable def T96v4ur1 (N : Nat) (R : Type) : LTab R := mkTab ⟨12, 4095⟩ (csF96v4 N R) (noY) [] [] []
theorem okT96v4ur1 (N : Nat) (R : Type) : (T96v4ur1 N R).Ok CX code96 := mkTab_ok (hcsF96v4 N R) (noY_ok) (trivial) (trivial) (trivial)
def rsF96v4 : List ResultVar := [.tmp 5, .tmp 6]
def F96v4 : Nat → TF96v4
  | 0 => fun _ _ => none
  | N + 1 => fun x0 x1 =>
    match F80 N x0 x1 with
    | none => none
    | some (.r rx0v1) =>
      match F91 N rx0v1 with
      | none => none
      | some (.r rx0v2) =>
        some (.r rx0v2 true)
def xRF96v4 : XSh R96v4 := ⟨[], ⟨[(0, .one (.cell (.int .i64))), (1, .one (.cell (.bool)))], [.var [.any] [.fn 80]]⟩, fun st => [0], fun s => .r ((Eng.look s.env 0).toI) ((Eng.look s.env 1).toB)⟩
theorem fsF96v4 : ∀ (N : Nat) (lk : Nat → AV) (M : List Blk), FFF96v4 (F96v4 (N + 1)) (canS sgF96v4 lk M) = evfn CX (T96v4ur1 N R96v4) code96 rsF96v4 (argsE 3 (canS sgF96v4 lk M).env) (canS sgF96v4 lk M).mem (goRt CX 1 2 (fun _ => some xRF96v4)) := by intro N lk M; kernel_rfl
theorem soundF96v4 : ∀ N, RecOkF96v4 (F96v4 N)
  | 0, lk, M, o, h => by cases h
  | N + 1, lk, M, o, h => fn_soundt hX (okT96v4ur1 N R96v4) Try.func96 hb96 rfl en96 (by kernel_rfl) (ys := fun _ => some xRF96v4) (fun st y h => by injection h with h; subst h; exact fun lk M => ⟨rfl, rfl⟩) ((fsF96v4 N lk M).symm.trans h)
def cvce96v4n0 : List Cv := []
def selce96v4n0 : St → List Nat := fun st => [(Eng.look st.env 2).id]
noncomputable def ce96v4n0 (Fx : TF96v4) (R : Type) (test : List AV → List Blk → Bool) : CE R := ⟨96, test, fun args M => some (selce96v4n0 ⟨argEnv 0 args, M, [], .unk⟩), fun args M k => tst (Nat.beq args.length 3) (callFn CX 1 cvce96v4n0 sgF96v4 selce96v4n0 (FFF96v4 Fx) elF96v4 args M k)⟩
theorem okce96v4n0 (Fx : TF96v4) (h : RecOkF96v4 Fx) (R : Type) (test : List AV → List Blk → Bool) : CeOk CX (ce96v4n0 Fx R test) := ce_ok hX (fun o k => by cases o; rfl) h en96 (fun args M ids h => by injection h with h; exact ⟨rfl, h.symm⟩)
end Go.Proofs.Ytnfmdenclkdmbaa

namespace Go.Proofs.Ytnfmdenclkdmbaa
open Go Go.Eng
set_option maxRecDepth 100000

/-! ### F81: ceiling/num.operators.11 -/
inductive R81 where
  | r (x0 : Bool)
abbrev TF81 := Int → Int → Option R81
def sgF81 : LSh := ⟨[(0, .one (.cell (.int .i64))), (1, .one (.cell (.int .i64)))], []⟩
def FFF81 (Fx : TF81) (s : St) : Option R81 := Fx ((Eng.look s.env 0).toI) ((Eng.look s.env 1).toI)
def valF81 (o : R81) : AV := match o with | .r x0 => .bool x0
def memF81 (o : R81) : List Blk := match o with | .r x0 => []
def elF81 {R : Type} (o : R81) (k : AV → List Blk → Option R) : Option R := match o with | .r x0 => k (.bool x0) []
def RecOkF81 (Fx : TF81) : Prop := ∀ lk M o, FFF81 Fx (canS sgF81 lk M) = some o → FCalls CX 81 0 (argsE 2 (canS sgF81 lk M).env) (canS sgF81 lk M).mem (valF81 o) (memF81 o)
noncomputable def csF81 (N : Nat) (R : Type) : List (CE R) := []
theorem hcsF81 (N : Nat) (R : Type) : AllE (CeOk CX) (csF81 N R) := trivial
noncomputable def T81ur1 (N : Nat) (R : Type) : LTab R := mkTab ⟨8, 255⟩ (csF81 N R) (noY) [] [] []
theorem okT81ur1 (N : Nat) (R : Type) : (T81ur1 N R).Ok CX code81 := mkTab_ok (hcsF81 N R) (noY_ok) (trivial) (trivial) (trivial)
def rsF81 : List ResultVar := [.tmp 4]
def F81 : Nat → TF81
  | 0 => fun _ _ => none
  | N + 1 => fun x0 x1 =>
    some (.r (decide (x1 ≤ x0)))
def xRF81 : XSh R81 := ⟨[], ⟨[(0, .one (.cell (.bool)))], []⟩, fun _ => [], fun s => .r ((Eng.look s.env 0).toB)⟩
theorem fsF81 : ∀ (N : Nat) (lk : Nat → AV) (M : List Blk), FFF81 (F81 (N + 1)) (canS sgF81 lk M) = evfn CX (T81ur1 N R81) code81 rsF81 (argsE 2 (canS sgF81 lk M).env) (canS sgF81 lk M).mem (goR CX 0 (fun _ => some xRF81)) := by intro N lk M; kernel_rfl
theorem soundF81 : ∀ N, RecOkF81 (F81 N)
  | 0, lk, M, o, h => by cases h
  | N + 1, lk, M, o, h => fn_sound hX (okT81ur1 N R81) Try.func81 hb81 rfl en81 (by kernel_rfl) (ys := fun _ => some xRF81) (fun st y h => by injection h with h; subst h; exact fun lk M => ⟨rfl, rfl⟩) ((fsF81 N lk M).symm.trans h)
def cvce81n0 : List Cv := []
def selce81n0 : St → List Nat := fun _ => []
noncomputable def ce81n0 (Fx : TF81) (R : Type) (test : List AV → List Blk → Bool) : CE R := ⟨81, test, fun args M => some (selce81n0 ⟨argEnv 0 args, M, [], .unk⟩), fun args M k => tst (Nat.beq args.length 2) (callFn CX 0 cvce81n0 sgF81 selce81n0 (FFF81 Fx) elF81 args M k)⟩
theorem okce81n0 (Fx : TF81) (h : RecOkF81 Fx) (R : Type) (test : List AV → List Blk → Bool) : CeOk CX (ce81n0 Fx R test) := ce_ok hX (fun o k => by cases o; rfl) h en81 (fun args M ids h => by injection h with h; exact ⟨rfl, h.symm⟩)
end Go.Proofs.Ytnfmdenclkdmbaa

namespace Go.Proofs.Ytnfmdenclkdmbaa
open Go Go.Eng
set_option maxRecDepth 100000

/-! ### F96v5: ceiling/num.relation.1 -/
inductive R96v5 where
  | r (x0 : Int) (x1 : Bool)
abbrev TF96v5 := Int → Int → Option R96v5
def sgF96v5 : LSh := ⟨[(0, .one (.cell (.int .i64))), (1, .one (.cell (.int .i64))), (2, .one (.ptr 0 0 0))], [.var [.any] [.fn 81]]⟩
def FFF96v5 (Fx : TF96v5) (s : St) : Option R96v5 := Fx ((Eng.look s.env 0).toI) ((Eng.look s.env 1).toI)
def valF96v5 (o : R96v5) : AV := match o with | .r x0 x1 => .tup [.int .i64 x0, .bool x1]
def memF96v5 (o : R96v5) : List Blk := match o with | .r x0 x1 => [.var [.any] [.clos 81 [] []]]
def elF96v5 {R : Type} (o : R96v5) (k : AV → List Blk → Option R) : Option R := match o with | .r x0 x1 => k (.tup [.int .i64 x0, .bool x1]) [.var [.any] [.clos 81 [] []]]
def RecOkF96v5 (Fx : TF96v5) : Prop := ∀ lk M o, FFF96v5 Fx (canS sgF96v5 lk M) = some o → FCalls CX 96 1 (argsE 3 (canS sgF96v5 lk M).env) (canS sgF96v5 lk M).mem (valF96v5 o) (memF96v5 o)
noncomputable def csF96v5 (N : Nat) (R : Type) : List (CE R) := [ce81n0 (F81 N) R (fun _ _ => true), ce91n0 (F91 N) R (fun _ _ => true)]
theorem hcsF96v5 (N : Nat) (R : Type) : AllE (CeOk CX) (csF96v5 N R) := ⟨okce81n0 (F81 N) (soundF81 N) R (fun _ _ => true), okce91n0 (F91 N) (soundF91 N) R (fun _ _ => true), trivial⟩
noncomputable def T96v5ur1 (N : Nat) (R : Type) : LTab R := mkTab ⟨12, 4095⟩ (csF96v5 N R) (noY) [] [] []
theorem okT96v5ur1 (N : Nat) (R : Type) : (T96v5ur1 N R).Ok CX code96 := mkTab_ok (hcsF96v5 N R) (noY_ok) (trivial) (trivial) (trivial)
def rsF96v5 : List ResultVar := [.tmp 5, .tmp 6]
def F96v5 : Nat → TF96v5
  | 0 => fun _ _ => none
  | N + 1 => fun x0 x1 =>
    match F81 N x0 x1 with
    | none => none
    | some (.r rx0v1) =>
      match F91 N rx0v1 with
      | none => none
      | some (.r rx0v2) =>
        some (.r rx0v2 true)
def xRF96v5 : XSh R96v5 := ⟨[], ⟨[(0, .one (.cell (.int .i64))), (1, .one (.cell (.bool)))], [.var [.any] [.fn 81]]⟩, fun st => [0], fun s => .r ((Eng.look s.env 0).toI) ((Eng.look s.env 1).toB)⟩
theorem fsF96v5 : ∀ (N : Nat) (lk : Nat → AV) (M : List Blk), FFF96v5 (F96v5 (N + 1)) (canS sgF96v5 lk M) = evfn CX (T96v5ur1 N R96v5) code96 rsF96v5 (argsE 3 (canS sgF96v5 lk M).env) (canS sgF96v5 lk M).mem (goRt CX 1 2 (fun _ => some xRF96v5)) := by intro N lk M; kernel_rfl
theorem soundF96v5 : ∀ N, RecOkF96v5 (F96v5 N)
  | 0, lk, M, o, h => by cases h
  | N + 1, lk, M, o, h => fn_soundt hX (okT96v5ur1 N R96v5) Try.func96 hb96 rfl en96 (by kernel_rfl) (ys := fun _ => some xRF96v5) (fun st y h => by injection h with h; subst h; exact fun lk M => ⟨rfl, rfl⟩) ((fsF96v5 N lk M).symm.trans h)
def cvce96v5n0 : List Cv := []
def selce96v5n0 : St → List Nat := fun st => [(Eng.look st.env 2).id]
noncomputable def ce96v5n0 (Fx : TF96v5) (R : Type) (test : List AV → List Blk → Bool) : CE R := ⟨96, test, fun args M => some (selce96v5n0 ⟨argEnv 0 args, M, [], .unk⟩), fun args M k => tst (Nat.beq args.length 3) (callFn CX 1 cvce96v5n0 sgF96v5 selce96v5n0 (FFF96v5 Fx) elF96v5 args M k)⟩
theorem okce96v5n0 (Fx : TF96v5) (h : RecOkF96v5 Fx) (R : Type) (test : List AV → List Blk → Bool) : CeOk CX (ce96v5n0 Fx R test) := ce_ok hX (fun o k => by cases o; rfl) h en96 (fun args M ids h => by injection h with h; exact ⟨rfl, h.symm⟩)
end Go.Proofs.Ytnfmdenclkdmbaa

namespace Go.Proofs.Ytnfmdenclkdmbaa
open Go Go.Eng
set_option maxRecDepth 100000

/-! ### F82: ceiling/num.operators.12 -/
inductive R82 where
  | r (x0 : Int)
abbrev TF82 := Int → Int → Option R82
def sgF82 : LSh := ⟨[(0, .one (.cell (.int .i64))), (1, .one (.cell (.int .i64)))], []⟩
def FFF82 (Fx : TF82) (s : St) : Option R82 := Fx ((Eng.look s.env 0).toI) ((Eng.look s.env 1).toI)
def valF82 (o : R82) : AV := match o with | .r x0 => .int .i64 x0
def memF82 (o : R82) : List Blk := match o with | .r x0 => []
def elF82 {R : Type} (o : R82) (k : AV → List Blk → Option R) : Option R := match o with | .r x0 => k (.int .i64 x0) []
def RecOkF82 (Fx : TF82) : Prop := ∀ lk M o, FFF82 Fx (canS sgF82 lk M) = some o → FCalls CX 82 0 (argsE 2 (canS sgF82 lk M).env) (canS sgF82 lk M).mem (valF82 o) (memF82 o)
noncomputable def csF82 (N : Nat) (R : Type) : List (CE R) := []
theorem hcsF82 (N : Nat) (R : Type) : AllE (CeOk CX) (csF82 N R) := trivial
noncomputable def T82ur1 (N : Nat) (R : Type) : LTab R := mkTab ⟨8, 255⟩ (csF82 N R) (noY) [] [] []
theorem okT82ur1 (N : Nat) (R : Type) : (T82ur1 N R).Ok CX code82 := mkTab_ok (hcsF82 N R) (noY_ok) (trivial) (trivial) (trivial)
def rsF82 : List ResultVar := [.tmp 4]
def F82 : Nat → TF82
  | 0 => fun _ _ => none
  | N + 1 => fun x0 x1 =>
    some (.r (IntKind.wrap .i64 ((BitVec.ofInt 64 x0 &&& BitVec.ofInt 64 x1).toNat : Int)))
def xRF82 : XSh R82 := ⟨[], ⟨[(0, .one (.cell (.int .i64)))], []⟩, fun _ => [], fun s => .r ((Eng.look s.env 0).toI)⟩
theorem fsF82 : ∀ (N : Nat) (lk : Nat → AV) (M : List Blk), FFF82 (F82 (N + 1)) (canS sgF82 lk M) = evfn CX (T82ur1 N R82) code82 rsF82 (argsE 2 (canS sgF82 lk M).env) (canS sgF82 lk M).mem (goR CX 0 (fun _ => some xRF82)) := by intro N lk M; kernel_rfl
theorem soundF82 : ∀ N, RecOkF82 (F82 N)
  | 0, lk, M, o, h => by cases h
  | N + 1, lk, M, o, h => fn_sound hX (okT82ur1 N R82) Try.func82 hb82 rfl en82 (by kernel_rfl) (ys := fun _ => some xRF82) (fun st y h => by injection h with h; subst h; exact fun lk M => ⟨rfl, rfl⟩) ((fsF82 N lk M).symm.trans h)
def cvce82n0 : List Cv := []
def selce82n0 : St → List Nat := fun _ => []
noncomputable def ce82n0 (Fx : TF82) (R : Type) (test : List AV → List Blk → Bool) : CE R := ⟨82, test, fun args M => some (selce82n0 ⟨argEnv 0 args, M, [], .unk⟩), fun args M k => tst (Nat.beq args.length 2) (callFn CX 0 cvce82n0 sgF82 selce82n0 (FFF82 Fx) elF82 args M k)⟩
theorem okce82n0 (Fx : TF82) (h : RecOkF82 Fx) (R : Type) (test : List AV → List Blk → Bool) : CeOk CX (ce82n0 Fx R test) := ce_ok hX (fun o k => by cases o; rfl) h en82 (fun args M ids h => by injection h with h; exact ⟨rfl, h.symm⟩)
end Go.Proofs.Ytnfmdenclkdmbaa

namespace Go.Proofs.Ytnfmdenclkdmbaa
open Go Go.Eng
set_option maxRecDepth 100000

/-! ### F94v3: ceiling/num.always.1 -/
inductive R94v3 where
  | r (x0 : Int) (x1 : Bool)
abbrev TF94v3 := Int → Int → Option R94v3
def sgF94v3 : LSh := ⟨[(0, .one (.cell (.int .i64))), (1, .one (.cell (.int .i64))), (2, .one (.ptr 0 0 0))], [.var [.any] [.fn 82]]⟩
def FFF94v3 (Fx : TF94v3) (s : St) : Option R94v3 := Fx ((Eng.look s.env 0).toI) ((Eng.look s.env 1).toI)
def valF94v3 (o : R94v3) : AV := match o with | .r x0 x1 => .tup [.int .i64 x0, .bool x1]
def memF94v3 (o : R94v3) : List Blk := match o with | .r x0 x1 => [.var [.any] [.clos 82 [] []]]
def elF94v3 {R : Type} (o : R94v3) (k : AV → List Blk → Option R) : Option R := match o with | .r x0 x1 => k (.tup [.int .i64 x0, .bool x1]) [.var [.any] [.clos 82 [] []]]
def RecOkF94v3 (Fx : TF94v3) : Prop := ∀ lk M o, FFF94v3 Fx (canS sgF94v3 lk M) = some o → FCalls CX 94 1 (argsE 3 (canS sgF94v3 lk M).env) (canS sgF94v3 lk M).mem (valF94v3 o) (memF94v3 o)
noncomputable def csF94v3 (N : Nat) (R : Type) : List (CE R) := [ce82n0 (F82 N) R (fun _ _ => true)]
theorem hcsF94v3 (N : Nat) (R : Type) : AllE (CeOk CX) (csF94v3 N R) := ⟨okce82n0 (F82 N) (soundF82 N) R (fun _ _ => true), trivial⟩
noncomputable def T94v3ur1 (N : Nat) (R : Type) : LTab R := mkTab ⟨11, 2047⟩ (csF94v3 N R) (noY) [] [] []
theorem okT94v3ur1 (N : Nat) (R : Type) : (T94v3ur1 N R).Ok CX code94 := mkTab_ok (hcsF94v3 N R) (noY_ok) (trivial) (trivial) (trivial)
def rsF94v3 : List ResultVar := [.tmp 5, .tmp 6]
def F94v3 : Nat → TF94v3
  | 0 => fun _ _ => none
  | N + 1 => fun x0 x1 =>
    match F82 N x0 x1 with
    | none => none
    | some (.r rx0v1) =>
      some (.r rx0v1 true)
def xRF94v3 : XSh R94v3 := ⟨[], ⟨[(0, .one (.cell (.int .i64))), (1, .one (.cell (.bool)))], [.var [.any] [.fn 82]]⟩, fun st => [0], fun s => .r ((Eng.look s.env 0).toI) ((Eng.look s.env 1).toB)⟩
theorem fsF94v3 : ∀ (N : Nat) (lk : Nat → AV) (M : List Blk), FFF94v3 (F94v3 (N + 1)) (canS sgF94v3 lk M) = evfn CX (T94v3ur1 N R94v3) code94 rsF94v3 (argsE 3 (canS sgF94v3 lk M).env) (canS sgF94v3 lk M).mem (goRt CX 1 2 (fun _ => some xRF94v3)) := by intro N lk M; kernel_rfl
theorem soundF94v3 : ∀ N, RecOkF94v3 (F94v3 N)
  | 0, lk, M, o, h => by cases h
  | N + 1, lk, M, o, h => fn_soundt hX (okT94v3ur1 N R94v3) Try.func94 hb94 rfl en94 (by kernel_rfl) (ys := fun _ => some xRF94v3) (fun st y h => by injection h with h; subst h; exact fun lk M => ⟨rfl, rfl⟩) ((fsF94v3 N lk M).symm.trans h)
def cvce94v3n0 : List Cv := []
def selce94v3n0 : St → List Nat := fun st => [(Eng.look st.env 2).id]
noncomputable def ce94v3n0 (Fx : TF94v3) (R : Type) (test : List AV → List Blk → Bool) : CE R := ⟨94, test, fun args M => some (selce94v3n0 ⟨argEnv 0 args, M, [], .unk⟩), fun args M k => tst (Nat.beq args.length 3) (callFn CX 1 cvce94v3n0 sgF94v3 selce94v3n0 (FFF94v3 Fx) elF94v3 args M k)⟩
theorem okce94v3n0 (Fx : TF94v3) (h : RecOkF94v3 Fx) (R : Type) (test : List AV → List Blk → Bool) : CeOk CX (ce94v3n0 Fx R test) := ce_ok hX (fun o k => by cases o; rfl) h en94 (fun args M ids h => by injection h with h; exact ⟨rfl, h.symm⟩)
end Go.Proofs.Ytnfmdenclkdmbaa

namespace Go.Proofs.Ytnfmdenclkdmbaa
open Go Go.Eng
set_option maxRecDepth 100000

/-! ### F83: ceiling/num.operators.13 -/
inductive R83 where
  | r (x0 : Int)
abbrev TF83 := Int → Int → Option R83
def sgF83 : LSh := ⟨[(0, .one (.cell (.int .i64))), (1, .one (.cell (.int .i64)))], []⟩
def FFF83 (Fx : TF83) (s : St) : Option R83 := Fx ((Eng.look s.env 0).toI) ((Eng.look s.env 1).toI)
def valF83 (o : R83) : AV := match o with | .r x0 => .int .i64 x0
def memF83 (o : R83) : List Blk := match o with | .r x0 => []
def elF83 {R : Type} (o : R83) (k : AV → List Blk → Option R) : Option R := match o with | .r x0 => k (.int .i64 x0) []
def RecOkF83 (Fx : TF83) : Prop := ∀ lk M o, FFF83 Fx (canS sgF83 lk M) = some o → FCalls CX 83 0 (argsE 2 (canS sgF83 lk M).env) (canS sgF83 lk M).mem (valF83 o) (memF83 o)
noncomputable def csF83 (N : Nat) (R : Type) : List (CE R) := []
theorem hcsF83 (N : Nat) (R : Type) : AllE (CeOk CX) (csF83 N R) := trivial
noncomputable def T83ur1 (N : Nat) (R : Type) : LTab R := mkTab ⟨8, 255⟩ (csF83 N R) (noY) [] [] []
theorem okT83ur1 (N : Nat) (R : Type) : (T83ur1 N R).Ok CX code83 := mkTab_ok (hcsF83 N R) (noY_ok) (trivial) (trivial) (trivial)
def rsF83 : List ResultVar := [.tmp 4]
def F83 : Nat → TF83
  | 0 => fun _ _ => none
  | N + 1 => fun x0 x1 =>
    some (.r (IntKind.wrap .i64 ((BitVec.ofInt 64 x0 ||| BitVec.ofInt 64 x1).toNat : Int)))
def xRF83 : XSh R83 := ⟨[], ⟨[(0, .one (.cell (.int .i64)))], []⟩, fun _ => [], fun s => .r ((Eng.look s.env 0).toI)⟩
theorem fsF83 : ∀ (N : Nat) (lk : Nat → AV) (M : List Blk), FFF83 (F83 (N + 1)) (canS sgF83 lk M) = evfn CX (T83ur1 N R83) code83 rsF83 (argsE 2 (canS sgF83 lk M).env) (canS sgF83 lk M).mem (goR CX 0 (fun _ => some xRF83)) := by intro N lk M; kernel_rfl
theorem soundF83 : ∀ N, RecOkF83 (F83 N)
  | 0, lk, M, o, h => by cases h
  | N + 1, lk, M, o, h => fn_sound hX (okT83ur1 N R83) Try.func83 hb83 rfl en83 (by kernel_rfl) (ys := fun _ => some xRF83) (fun st y h => by injection h with h; subst h; exact fun lk M => ⟨rfl, rfl⟩) ((fsF83 N lk M).symm.trans h)
def cvce83n0 : List Cv := []
def selce83n0 : St → List Nat := fun _ => []
noncomputable def ce83n0 (Fx : TF83) (R : Type) (test : List AV → List Blk → Bool) : CE R := ⟨83, test, fun args M => some (selce83n0 ⟨argEnv 0 args, M, [], .unk⟩), fun args M k => tst (Nat.beq args.length 2) (callFn CX 0 cvce83n0 sgF83 selce83n0 (FFF83 Fx) elF83 args M k)⟩
theorem okce83n0 (Fx : TF83) (h : RecOkF83 Fx) (R : Type) (test : List AV → List Blk → Bool) : CeOk CX (ce83n0 Fx R test) := ce_ok hX (fun o k => by cases o; rfl) h en83 (fun args M ids h => by injection h with h; exact ⟨rfl, h.symm⟩)
end Go.Proofs.Ytnfmdenclkdmbaa

namespace Go.Proofs.Ytnfmdenclkdmbaa
open Go Go.Eng
set_option maxRecDepth 100000

/-! ### F94v4: ceiling/num.always.1 -/
inductive R94v4 where
  | r (x0 : Int) (x1 : Bool)
abbrev TF94v4 := Int → Int → Option R94v4
def sgF94v4 : LSh := ⟨[(0, .one (.cell (.int .i64))), (1, .one (.cell (.int .i64))), (2, .one (.ptr 0 0 0))], [.var [.any] [.fn 83]]⟩
def FFF94v4 (Fx : TF94v4) (s : St) : Option R94v4 := Fx ((Eng.look s.env 0).toI) ((Eng.look s.env 1).toI)
def valF94v4 (o : R94v4) : AV := match o with | .r x0 x1 => .tup [.int .i64 x0, .bool x1]
def memF94v4 (o : R94v4) : List Blk := match o with | .r x0 x1 => [.var [.any] [.clos 83 [] []]]
def elF94v4 {R : Type} (o : R94v4) (k : AV → List Blk → Option R) : Option R := match o with | .r x0 x1 => k (.tup [.int .i64 x0, .bool x1]) [.var [.any] [.clos 83 [] []]]
def RecOkF94v4 (Fx : TF94v4) : Prop := ∀ lk M o, FFF94v4 Fx (canS sgF94v4 lk M) = some o → FCalls CX 94 1 (argsE 3 (canS sgF94v4 lk M).env) (canS sgF94v4 lk M).mem (valF94v4 o) (memF94v4 o)
noncomputable def csF94v4 (N : Nat) (R : Type) : List (CE R) := [ce83n0 (F83 N) R (fun _ _ => true)]
theorem hcsF94v4 (N : Nat) (R : Type) : AllE (CeOk CX) (csF94v4 N R) := ⟨okce83n0 (F83 N) (soundF83 N) R (fun _ _ => true), trivial⟩
noncomputable def T94v4ur1 (N : Nat) (R : Type) : LTab R := mkTab ⟨11, 2047⟩ (csF94v4 N R) (noY) [] [] []
theorem okT94v4ur1 (N : Nat) (R : Type) : (T94v4ur1 N R).Ok CX code94 := mkTab_ok (hcsF94v4 N R) (noY_ok) (trivial) (trivial) (trivial)
def rsF94v4 : List ResultVar := [.tmp 5, .tmp 6]
def F94v4 : Nat → TF94v4
  | 0 => fun _ _ => none
  | N + 1 => fun x0 x1 =>
    match F83 N x0 x1 with
    | none => none
    | some (.r rx0v1) =>
      some (.r rx0v1 true)
def xRF94v4 : XSh R94v4 := ⟨[], ⟨[(0, .one (.cell (.int .i64))), (1, .one (.cell (.bool)))], [.var [.any] [.fn 83]]⟩, fun st => [0], fun s => .r ((Eng.look s.env 0).toI) ((Eng.look s.env 1).toB)⟩
theorem fsF94v4 : ∀ (N : Nat) (lk : Nat → AV) (M : List Blk), FFF94v4 (F94v4 (N + 1)) (canS sgF94v4 lk M) = evfn CX (T94v4ur1 N R94v4) code94 rsF94v4 (argsE 3 (canS sgF94v4 lk M).env) (canS sgF94v4 lk M).mem (goRt CX 1 2 (fun _ => some xRF94v4)) := by intro N lk M; kernel_rfl
theorem soundF94v4 : ∀ N, RecOkF94v4 (F94v4 N)
  | 0, lk, M, o, h => by cases h
  | N + 1, lk, M, o, h => fn_soundt hX (okT94v4ur1 N R94v4) Try.func94 hb94 rfl en94 (by kernel_rfl) (ys := fun _ => some xRF94v4) (fun st y h => by injection h with h; subst h; exact fun lk M => ⟨rfl, rfl⟩) ((fsF94v4 N lk M).symm.trans h)
def cvce94v4n0 : List Cv := []
def selce94v4n0 : St → List Nat := fun st => [(Eng.look st.env 2).id]
noncomputable def ce94v4n0 (Fx : TF94v4) (R : Type) (test : List AV → List Blk → Bool) : CE R := ⟨94, test, fun args M => some (selce94v4n0 ⟨argEnv 0 args, M, [], .unk⟩), fun args M k => tst (Nat.beq args.length 3) (callFn CX 1 cvce94v4n0 sgF94v4 selce94v4n0 (FFF94v4 Fx) elF94v4 args M k)⟩
theorem okce94v4n0 (Fx : TF94v4) (h : RecOkF94v4 Fx) (R : Type) (test : List AV → List Blk → Bool) : CeOk CX (ce94v4n0 Fx R test) := ce_ok hX (fun o k => by cases o; rfl) h en94 (fun args M ids h => by injection h with h; exact ⟨rfl, h.symm⟩)
end Go.Proofs.Ytnfmdenclkdmbaa

namespace Go.Proofs.Ytnfmdenclkdmbaa
open Go Go.Eng
set_option maxRecDepth 100000

/-! ### F84: ceiling/num.operators.14 -/
inductive R84 where
  | r (x0 : Int)
abbrev TF84 := Int → Int → Option R84
def sgF84 : LSh := ⟨[(0, .one (.cell (.int .i64))), (1, .one (.cell (.int .i64)))], []⟩
def FFF84 (Fx : TF84) (s : St) : Option R84 := Fx ((Eng.look s.env 0).toI) ((Eng.look s.env 1).toI)
def valF84 (o : R84) : AV := match o with | .r x0 => .int .i64 x0
def memF84 (o : R84) : List Blk := match o with | .r x0 => []
def elF84 {R : Type} (o : R84) (k : AV → List Blk → Option R) : Option R := match o with | .r x0 => k (.int .i64 x0) []
def RecOkF84 (Fx : TF84) : Prop := ∀ lk M o, FFF84 Fx (canS sgF84 lk M) = some o → FCalls CX 84 0 (argsE 2 (canS sgF84 lk M).env) (canS sgF84 lk M).mem (valF84 o) (memF84 o)
noncomputable def csF84 (N : Nat) (R : Type) : List (CE R) := []
theorem hcsF84 (N : Nat) (R : Type) : AllE (CeOk CX) (csF84 N R) := trivial
noncomputable def T84ur1 (N : Nat) (R : Type) : LTab R := mkTab ⟨8, 255⟩ (csF84 N R) (noY) [] [] []
theorem okT84ur1 (N : Nat) (R : Type) : (T84ur1 N R).Ok CX code84 := mkTab_ok (hcsF84 N R) (noY_ok) (trivial) (trivial) (trivial)
def rsF84 : List ResultVar := [.tmp 4]
def F84 : Nat → TF84
  | 0 => fun _ _ => none
  | N + 1 => fun x0 x1 =>
    some (.r (IntKind.wrap .i64 ((BitVec.ofInt 64 x0 ^^^ BitVec.ofInt 64 x1).toNat : Int)))
def xRF84 : XSh R84 := ⟨[], ⟨[(0, .one (.cell (.int .i64)))], []⟩, fun _ => [], fun s => .r ((Eng.look s.env 0).toI)⟩
theorem fsF84 : ∀ (N : Nat) (lk : Nat → AV) (M : List Blk), FFF84 (F84 (N + 1)) (canS sgF84 lk M) = evfn CX (T84ur1 N R84) code84 rsF84 (argsE 2 (canS sgF84 lk M).env) (canS sgF84 lk M).mem (goR CX 0 (fun _ => some xRF84)) := by intro N lk M; kernel_rfl
theorem soundF84 : ∀ N, RecOkF84 (F84 N)
  | 0, lk, M, o, h => by cases h
  | N + 1, lk, M, o, h => fn_sound hX (okT84ur1 N R84) Try.func84 hb84 rfl en84 (by kernel_rfl) (ys := fun _ => some xRF84) (fun st y h => by injection h with h; subst h; exact fun lk M => ⟨rfl, rfl⟩) ((fsF84 N lk M).symm.trans h)
def cvce84n0 : List Cv := []
def selce84n0 : St → List Nat := fun _ => []
noncomputable def ce84n0 (Fx : TF84) (R : Type) (test : List AV → List Blk → Bool) : CE R := ⟨84, test, fun args M => some (selce84n0 ⟨argEnv 0 args, M, [], .unk⟩), fun args M k => tst (Nat.beq args.length 2) (callFn CX 0 cvce84n0 sgF84 selce84n0 (FFF84 Fx) elF84 args M k)⟩
theorem okce84n0 (Fx : TF84) (h : RecOkF84 Fx) (R : Type) (test : List AV → List Blk → Bool) : CeOk CX (ce84n0 Fx R test) := ce_ok hX (fun o k => by cases o; rfl) h en84 (fun args M ids h => by injection h with h; exact ⟨rfl, h.symm⟩)
end Go.Proofs.Ytnfmdenclkdmbaa

namespace Go.Proofs.Ytnfmdenclkdmbaa
open Go Go.Eng
set_option maxRecDepth 100000

/-! ### F94v5: ceiling/num.always.1 -/
inductive R94v5 where
  | r (x0 : Int) (x1 : Bool)
abbrev TF94v5 := Int → Int → Option R94v5
def sgF94v5 : LSh := ⟨[(0, .one (.cell (.int .i64))), (1, .one (.cell (.int .i64))), (2, .one (.ptr 0 0 0))], [.var [.any] [.fn 84]]⟩
def FFF94v5 (Fx : TF94v5) (s : St) : Option R94v5 := Fx ((Eng.look s.env 0).toI) ((Eng.look s.env 1).toI)
def valF94v5 (o : R94v5) : AV := match o with | .r x0 x1 => .tup [.int .i64 x0, .bool x1]
def memF94v5 (o : R94v5) : List Blk := match o with | .r x0 x1 => [.var [.any] [.clos 84 [] []]]
def elF94v5 {R : Type} (o : R94v5) (k : AV → List Blk → Option R) : Option R := match o with | .r x0 x1 => k (.tup [.int .i64 x0, .bool x1]) [.var [.any] [.clos 84 [] []]]
def RecOkF94v5 (Fx : TF94v5) : Prop := ∀ lk M o, FFF94v5 Fx (canS sgF94v5 lk M) = some o → FCalls CX 94 1 (argsE 3 (canS sgF94v5 lk M).env) (canS sgF94v5 lk M).mem (valF94v5 o) (memF94v5 o)
noncomputable def csF94v5 (N : Nat) (R : Type) : List (CE R) := [ce84n0 (F84 N) R (fun _ _ => true)]
theorem hcsF94v5 (N : Nat) (R : Type) : AllE (CeOk CX) (csF94v5 N R) := ⟨okce84n0 (F84 N) (soundF84 N) R (fun _ _ => true), trivial⟩
noncomputable def T94v5ur1 (N : Nat) (R : Type) : LTab R := mkTab ⟨11, 2047⟩ (csF94v5 N R) (noY) [] [] []
theorem okT94v5ur1 (N : Nat) (R : Type) : (T94v5ur1 N R).Ok CX code94 := mkTab_ok (hcsF94v5 N R) (noY_ok) (trivial) (trivial) (trivial)
def rsF94v5 : List ResultVar := [.tmp 5, .tmp 6]
def F94v5 : Nat → TF94v5
  | 0 => fun _ _ => none
  | N + 1 => fun x0 x1 =>
    match F84 N x0 x1 with
    | none => none
    | some (.r rx0v1) =>
      some (.r rx0v1 true)
def xRF94v5 : XSh R94v5 := ⟨[], ⟨[(0, .one (.cell (.int .i64))), (1, .one (.cell (.bool)))], [.var [.any] [.fn 84]]⟩, fun st => [0], fun s => .r ((Eng.look s.env 0).toI) ((Eng.look s.env 1).toB)⟩
theorem fsF94v5 : ∀ (N : Nat) (lk : Nat → AV) (M : List Blk), FFF94v5 (F94v5 (N + 1)) (canS sgF94v5 lk M) = evfn CX (T94v5ur1 N R94v5) code94 rsF94v5 (argsE 3 (canS sgF94v5 lk M).env) (canS sgF94v5 lk M).mem (goRt CX 1 2 (fun _ => some xRF94v5)) := by intro N lk M; kernel_rfl
theorem soundF94v5 : ∀ N, RecOkF94v5 (F94v5 N)
  | 0, lk, M, o, h => by cases h
  | N + 1, lk, M, o, h => fn_soundt hX (okT94v5ur1 N R94v5) Try.func94 hb94 rfl en94 (by kernel_rfl) (ys := fun _ => some xRF94v5) (fun st y h => by injection h with h; subst h; exact fun lk M => ⟨rfl, rfl⟩) ((fsF94v5 N lk M).symm.trans h)
def cvce94v5n0 : List Cv := []
def selce94v5n0 : St → List Nat := fun st => [(Eng.look st.env 2).id]
noncomputable def ce94v5n0 (Fx : TF94v5) (R : Type) (test : List AV → List Blk → Bool) : CE R := ⟨94, test, fun args M => some (selce94v5n0 ⟨argEnv 0 args, M, [], .unk⟩), fun args M k => tst (Nat.beq args.length 3) (callFn CX 1 cvce94v5n0 sgF94v5 selce94v5n0 (FFF94v5 Fx) elF94v5 args M k)⟩
theorem okce94v5n0 (Fx : TF94v5) (h : RecOkF94v5 Fx) (R : Type) (test : List AV → List Blk → Bool) : CeOk CX (ce94v5n0 Fx R test) := ce_ok hX (fun o k => by cases o; rfl) h en94 (fun args M ids h => by injection h with h; exact ⟨rfl, h.symm⟩)
end Go.Proofs.Ytnfmdenclkdmbaa

namespace Go.Proofs.Ytnfmdenclkdmbaa
open Go Go.Eng
set_option maxRecDepth 100000

/-! ### F85: ceiling/num.operators.15 -/
inductive R85 where
  | r (x0 : Int)
abbrev TF85 := Int → Int → Option R85
def sgF85 : LSh := ⟨[(0, .one (.cell (.int .i64))), (1, .one (.cell (.int .i64)))], []⟩
def FFF85 (Fx : TF85) (s : St) : Option R85 := Fx ((Eng.look s.env 0).toI) ((Eng.look s.env 1).toI)
def valF85 (o : R85) : AV := match o with | .r x0 => .int .i64 x0
def memF85 (o : R85) : List Blk := match o with | .r x0 => []
def elF85 {R : Type} (o : R85) (k : AV → List Blk → Option R) : Option R := match o with | .r x0 => k (.int .i64 x0) []
def RecOkF85 (Fx : TF85) : Prop := ∀ lk M o, FFF85 Fx (canS sgF85 lk M) = some o → FCalls CX 85 0 (argsE 2 (canS sgF85 lk M).env) (canS sgF85 lk M).mem (valF85 o) (memF85 o)
noncomputable def csF85 (N : Nat) (R : Type) : List (CE R) := []
theorem hcsF85 (N : Nat) (R : Type) : AllE (CeOk CX) (csF85 N R) := trivial
noncomputable def T85ur1 (N : Nat) (R : Type) : LTab R := mkTab ⟨7, 127⟩ (csF85 N R) (noY) [] [] []
theorem okT85ur1 (N : Nat) (R : Type) : (T85ur1 N R).Ok CX code85 := mkTab_ok (hcsF85 N R) (noY_ok) (trivial) (trivial) (trivial)
def rsF85 : List ResultVar := [.tmp 4]
def F85 : Nat → TF85
  | 0 => fun _ _ => none
  | N + 1 => fun x0 x1 =>
    some (.r (IntKind.wrap .i64 (0 - x0)))
def xRF85 : XSh R85 := ⟨[], ⟨[(0, .one (.cell (.int .i64)))], []⟩, fun _ => [], fun s => .r ((Eng.look s.env 0).toI)⟩
theorem fsF85 : ∀ (N : Nat) (lk : Nat → AV) (M : List Blk), FFF85 (F85 (N + 1)) (canS sgF85 lk M) = evfn CX (T85ur1 N R85) code85 rsF85 (argsE 2 (canS sgF85 lk M).env) (canS sgF85 lk M).mem (goR CX 0 (fun _ => some xRF85)) := by intro N lk M; kernel_rfl
theorem soundF85 : ∀ N, RecOkF85 (F85 N)
  | 0, lk, M, o, h => by cases h
  | N + 1, lk, M, o, h => fn_sound hX (okT85ur1 N R85) Try.func85 hb85 rfl en85 (by kernel_rfl) (ys := fun _ => some xRF85) (fun st y h => by injection h with h; subst h; exact fun lk M => ⟨rfl, rfl⟩) ((fsF85 N lk M).symm.trans h)
def cvce85n0 : List Cv := []
def selce85n0 : St → List Nat := fun _ => []
noncomputable def ce85n0 (Fx : TF85) (R : Type) (test : List AV → List Blk → Bool) : CE R := ⟨85, test, fun args M => some (selce85n0 ⟨argEnv 0 args, M, [], .unk⟩), fun args M k => tst (Nat.beq args.length 2) (callFn CX 0 cvce85n0 sgF85 selce85n0 (FFF85 Fx) elF85 args M k)⟩
theorem okce85n0 (Fx : TF85) (h : RecOkF85 Fx) (R : Type) (test : List AV → List Blk → Bool) : CeOk CX (ce85n0 Fx R test) := ce_ok hX (fun o k => by cases o; rfl) h en85 (fun args M ids h => by injection h with h; exact ⟨rfl, h.symm⟩)
end Go.Proofs.Ytnfmdenclkdmbaa

namespace Go.Proofs.Ytnfmdenclkdmbaa
open Go Go.Eng
set_option maxRecDepth 100000

/-! ### F94v6: ceiling/num.always.1 -/
inductive R94v6 where
  | r (x0 : Int) (x1 : Bool)
abbrev TF94v6 := Int → Int → Option R94v6
def sgF94v6 : LSh := ⟨[(0, .one (.cell (.int .i64))), (1, .one (.cell (.int .i64))), (2, .one (.ptr 0 0 0))], [.var [.any] [.fn 85]]⟩
def FFF94v6 (Fx : TF94v6) (s : St) : Option R94v6 := Fx ((Eng.look s.env 0).toI) ((Eng.look s.env 1).toI)
def valF94v6 (o : R94v6) : AV := match o with | .r x0 x1 => .tup [.int .i64 x0, .bool x1]
def memF94v6 (o : R94v6) : List Blk := match o with | .r x0 x1 => [.var [.any] [.clos 85 [] []]]
def elF94v6 {R : Type} (o : R94v6) (k : AV → List Blk → Option R) : Option R := match o with | .r x0 x1 => k (.tup [.int .i64 x0, .bool x1]) [.var [.any] [.clos 85 [] []]]
def RecOkF94v6 (Fx : TF94v6) : Prop := ∀ lk M o, FFF94v6 Fx (canS sgF94v6 lk M) = some o → FCalls CX 94 1 (argsE 3 (canS sgF94v6 lk M).env) (canS sgF94v6 lk M).mem (valF94v6 o) (memF94v6 o)
noncomputable def csF94v6 (N : Nat) (R : Type) : List (CE R) := [ce85n0 (F85 N) R (fun _ _ => true)]
theorem hcsF94v6 (N : Nat) (R : Type) : AllE (CeOk CX) (csF94v6 N R) := ⟨okce85n0 (F85 N) (soundF85 N) R (fun _ _ => true), trivial⟩
noncomputable def T94v6ur1 (N : Nat) (R : Type) : LTab R := mkTab ⟨11, 2047⟩ (csF94v6 N R) (noY) [] [] []
theorem okT94v6ur1 (N : Nat) (R : Type) : (T94v6ur1 N R).Ok CX code94 := mkTab_ok (hcsF94v6 N R) (noY_ok) (trivial) (trivial) (trivial)
def rsF94v6 : List ResultVar := [.tmp 5, .tmp 6]
def F94v6 : Nat → TF94v6
  | 0 => fun _ _ => none
  | N + 1 => fun x0 x1 =>
    match F85 N x0 x1 with
    | none => none
    | some (.r rx0v1) =>
      some (.r rx0v1 true)
def xRF94v6 : XSh R94v6 := ⟨[], ⟨[(0, .one (.cell (.int .i64))), (1, .one (.cell (.bool)))], [.var [.any] [.fn 85]]⟩, fun st => [0], fun s => .r ((Eng.look s.env 0).toI) ((Eng.look s.env 1).toB)⟩
theorem fsF94v6 : ∀ (N : Nat) (lk : Nat → AV) (M : List Blk), FFF94v6 (F94v6 (N + 1)) (canS sgF94v6 lk M) = evfn CX (T94v6ur1 N R94v6) code94 rsF94v6 (argsE 3 (canS sgF94v6 lk M).env) (canS sgF94v6 lk M).mem (goRt CX 1 2 (fun _ => some xRF94v6)) := by intro N lk M; kernel_rfl
theorem soundF94v6 : ∀ N, RecOkF94v6 (F94v6 N)
  | 0, lk, M, o, h => by cases h
  | N + 1, lk, M, o, h => fn_soundt hX (okT94v6ur1 N R94v6) Try.func94 hb94 rfl en94 (by kernel_rfl) (ys := fun _ => some xRF94v6) (fun st y h => by injection h with h; subst h; exact fun lk M => ⟨rfl, rfl⟩) ((fsF94v6 N lk M).symm.trans h)
def cvce94v6n0 : List Cv := []
def selce94v6n0 : St → List Nat := fun st => [(Eng.look st.env 2).id]
noncomputable def ce94v6n0 (Fx : TF94v6) (R : Type) (test : List AV → List Blk → Bool) : CE R := ⟨94, test, fun args M => some (selce94v6n0 ⟨argEnv 0 args, M, [], .unk⟩), fun args M k => tst (Nat.beq args.length 3) (callFn CX 1 cvce94v6n0 sgF94v6 selce94v6n0 (FFF94v6 Fx) elF94v6 args M k)⟩
theorem okce94v6n0 (Fx : TF94v6) (h : RecOkF94v6 Fx) (R : Type) (test : List AV → List Blk → Bool) : CeOk CX (ce94v6n0 Fx R test) := ce_ok hX (fun o k => by cases o; rfl) h en94 (fun args M ids h => by injection h with h; exact ⟨rfl, h.symm⟩)
end Go.Proofs.Ytnfmdenclkdmbaa

namespace Go.Proofs.Ytnfmdenclkdmbaa
open Go Go.Eng
set_option maxRecDepth 100000

/-! ### F86: ceiling/num.operators.16 -/
inductive R86 where
  | r (x0 : Int)
abbrev TF86 := Int → Int → Option R86
def sgF86 : LSh := ⟨[(0, .one (.cell (.int .i64))), (1, .one (.cell (.int .i64)))], []⟩
def FFF86 (Fx : TF86) (s : St) : Option R86 := Fx ((Eng.look s.env 0).toI) ((Eng.look s.env 1).toI)
def valF86 (o : R86) : AV := match o with | .r x0 => .int .i64 x0
def memF86 (o : R86) : List Blk := match o with | .r x0 => []
def elF86 {R : Type} (o : R86) (k : AV → List Blk → Option R) : Option R := match o with | .r x0 => k (.int .i64 x0) []
def RecOkF86 (Fx : TF86) : Prop := ∀ lk M o, FFF86 Fx (canS sgF86 lk M) = some o → FCalls CX 86 0 (argsE 2 (canS sgF86 lk M).env) (canS sgF86 lk M).mem (valF86 o) (memF86 o)
noncomputable def csF86 (N : Nat) (R : Type) : List (CE R) := []
theorem hcsF86 (N : Nat) (R : Type) : AllE (CeOk CX) (csF86 N R) := trivial
noncomputable def T86ur1 (N : Nat) (R : Type) : LTab R := mkTab ⟨9, 511⟩ (csF86 N R) (noY) [] [] []
theorem okT86ur1 (N : Nat) (R : Type) : (T86ur1 N R).Ok CX code86 := mkTab_ok (hcsF86 N R) (noY_ok) (trivial) (trivial) (trivial)
def rsF86 : List ResultVar := [.tmp 4]
def F86 : Nat → TF86
  | 0 => fun _ _ => none
  | N + 1 => fun x0 x1 =>
    some (.r (Eng.imax x0 (IntKind.wrap .i64 (0 - x0))))
def xRF86 : XSh R86 := ⟨[], ⟨[(0, .one (.cell (.int .i64)))], []⟩, fun _ => [], fun s => .r ((Eng.look s.env 0).toI)⟩
theorem fsF86 : ∀ (N : Nat) (lk : Nat → AV) (M : List Blk), FFF86 (F86 (N + 1)) (canS sgF86 lk M) = evfn CX (T86ur1 N R86) code86 rsF86 (argsE 2 (canS sgF86 lk M).env) (canS sgF86 lk M).mem (goR CX 0 (fun _ => some xRF86)) := by intro N lk M; kernel_rfl
theorem soundF86 : ∀ N, RecOkF86 (F86 N)
  | 0, lk, M, o, h => by cases h
  | N + 1, lk, M, o, h => fn_sound hX (okT86ur1 N R86) Try.func86 hb86 rfl en86 (by kernel_rfl) (ys := fun _ => some xRF86) (fun st y h => by injection h with h; subst h; exact fun lk M => ⟨rfl, rfl⟩) ((fsF86 N lk M).symm.trans h)
def cvce86n0 : List Cv := []
def selce86n0 : St → List Nat := fun _ => []
noncomputable def ce86n0 (Fx : TF86) (R : Type) (test : List AV → List Blk → Bool) : CE R := ⟨86, test, fun args M => some (selce86n0 ⟨argEnv 0 args, M, [], .unk⟩), fun args M k => tst (Nat.beq args.length 2) (callFn CX 0 cvce86n0 sgF86 selce86n0 (FFF86 Fx) elF86 args M k)⟩
theorem okce86n0 (Fx : TF86) (h : RecOkF86 Fx) (R : Type) (test : List AV → List Blk → Bool) : CeOk CX (ce86n0 Fx R test) := ce_ok hX (fun o k => by cases o; rfl) h en86 (fun args M ids h => by injection h with h; exact ⟨rfl, h.symm⟩)
end Go.Proofs.Ytnfmdenclkdmbaa

namespace Go.Proofs.Ytnfmdenclkdmbaa
open Go Go.Eng
set_option maxRecDepth 100000

/-! ### F94v7: ceiling/num.always.1 -/
inductive R94v7 where
  | r (x0 : Int) (x1 : Bool)
abbrev TF94v7 := Int → Int → Option R94v7
def sgF94v7 : LSh := ⟨[(0, .one (.cell (.int .i64))), (1, .one (.cell (.int .i64))), (2, .one (.ptr 0 0 0))], [.var [.any] [.fn 86]]⟩
def FFF94v7 (Fx : TF94v7) (s : St) : Option R94v7 := Fx ((Eng.look s.env 0).toI) ((Eng.look s.env 1).toI)
def valF94v7 (o : R94v7) : AV := match o with | .r x0 x1 => .tup [.int .i64 x0, .bool x1]
def memF94v7 (o : R94v7) : List Blk := match o with | .r x0 x1 => [.var [.any] [.clos 86 [] []]]
def elF94v7 {R : Type} (o : R94v7) (k : AV → List Blk → Option R) : Option R := match o with | .r x0 x1 => k (.tup [.int .i64 x0, .bool x1]) [.var [.any] [.clos 86 [] []]]
def RecOkF94v7 (Fx : TF94v7) : Prop := ∀ lk M o, FFF94v7 Fx (canS sgF94v7 lk M) = some o → FCalls CX 94 1 (argsE 3 (canS sgF94v7 lk M).env) (canS sgF94v7 lk M).mem (valF94v7 o) (memF94v7 o)
noncomputable def csF94v7 (N : Nat) (R : Type) : List (CE R) := [ce86n0 (F86 N) R (fun _ _ => true)]
theorem hcsF94v7 (N : Nat) (R : Type) : AllE (CeOk CX) (csF94v7 N R) := ⟨okce86n0 (F86 N) (soundF86 N) R (fun _ _ => true), trivial⟩
noncomputable def T94v7ur1 (N : Nat) (R : Type) : LTab R := mkTab ⟨11, 2047⟩ (csF94v7 N R) (noY) [] [] []
theorem okT94v7ur1 (N : Nat) (R : Type) : (T94v7ur1 N R).Ok CX code94 := mkTab_ok (hcsF94v7 N R) (noY_ok) (trivial) (trivial) (trivial)
def rsF94v7 : List ResultVar := [.tmp 5, .tmp 6]
def F94v7 : Nat → TF94v7
  | 0 => fun _ _ => none
  | N + 1 => fun x0 x1 =>
    match F86 N x0 x1 with
    | none => none
    | some (.r rx0v1) =>
      some (.r rx0v1 true)
def xRF94v7 : XSh R94v7 := ⟨[], ⟨[(0, .one (.cell (.int .i64))), (1, .one (.cell (.bool)))], [.var [.any] [.fn 86]]⟩, fun st => [0], fun s => .r ((Eng.look s.env 0).toI) ((Eng.look s.env 1).toB)⟩
theorem fsF94v7 : ∀ (N : Nat) (lk : Nat → AV) (M : List Blk), FFF94v7 (F94v7 (N + 1)) (canS sgF94v7 lk M) = evfn CX (T94v7ur1 N R94v7) code94 rsF94v7 (argsE 3 (canS sgF94v7 lk M).env) (canS sgF94v7 lk M).mem (goRt CX 1 2 (fun _ => some xRF94v7)) := by intro N lk M; kernel_rfl
theorem soundF94v7 : ∀ N, RecOkF94v7 (F94v7 N)
  | 0, lk, M, o, h => by cases h
  | N + 1, lk, M, o, h => fn_soundt hX (okT94v7ur1 N R94v7) Try.func94 hb94 rfl en94 (by kernel_rfl) (ys := fun _ => some xRF94v7) (fun st y h => by injection h with h; subst h; exact fun lk M => ⟨rfl, rfl⟩) ((fsF94v7 N lk M).symm.trans h)
def cvce94v7n0 : List Cv := []
def selce94v7n0 : St → List Nat := fun st => [(Eng.look st.env 2).id]
noncomputable def ce94v7n0 (Fx : TF94v7) (R : Type) (test : List AV → List Blk → Bool) : CE R := ⟨94, test, fun args M => some (selce94v7n0 ⟨argEnv 0 args, M, [], .unk⟩), fun args M k => tst (Nat.beq args.length 3) (callFn CX 1 cvce94v7n0 sgF94v7 selce94v7n0 (FFF94v7 Fx) elF94v7 args M k)⟩
theorem okce94v7n0 (Fx : TF94v7) (h : RecOkF94v7 Fx) (R : Type) (test : List AV → List Blk → Bool) : CeOk CX (ce94v7n0 Fx R test) := ce_ok hX (fun o k => by cases o; rfl) h en94 (fun args M ids h => by injection h with h; exact ⟨rfl, h.symm⟩)
end Go.Proofs.Ytnfmdenclkdmbaa

namespace Go.Proofs.Ytnfmdenclkdmbaa
open Go Go.Eng
set_option maxRecDepth 100000

/-! ### F87: ceiling/num.operators.17 -/
inductive R87 where
  | r (x0 : Int)
abbrev TF87 := Int → Int → Option R87
def sgF87 : LSh := ⟨[(0, .one (.cell (.int .i64))), (1, .one (.cell (.int .i64)))], []⟩
def FFF87 (Fx : TF87) (s : St) : Option R87 := Fx ((Eng.look s.env 0).toI) ((Eng.look s.env 1).toI)
def valF87 (o : R87) : AV := match o with | .r x0 => .int .i64 x0
def memF87 (o : R87) : List Blk := match o with | .r x0 => []
def elF87 {R : Type} (o : R87) (k : AV → List Blk → Option R) : Option R := match o with | .r x0 => k (.int .i64 x0) []
def RecOkF87 (Fx : TF87) : Prop := ∀ lk M o, FFF87 Fx (canS sgF87 lk M) = some o → FCalls CX 87 0 (argsE 2 (canS sgF87 lk M).env) (canS sgF87 lk M).mem (valF87 o) (memF87 o)
noncomputable def csF87 (N : Nat) (R : Type) : List (CE R) := []
theorem hcsF87 (N : Nat) (R : Type) : AllE (CeOk CX) (csF87 N R) := trivial
noncomputable def T87ur1 (N : Nat) (R : Type) : LTab R := mkTab ⟨7, 127⟩ (csF87 N R) (noY) [] [] []
theorem okT87ur1 (N : Nat) (R : Type) : (T87ur1 N R).Ok CX code87 := mkTab_ok (hcsF87 N R) (noY_ok) (trivial) (trivial) (trivial)
def rsF87 : List ResultVar := [.tmp 4]
def F87 : Nat → TF87
  | 0 => fun _ _ => none
  | N + 1 => fun x0 x1 =>
    some (.r (IntKind.wrap .i64 ((1 : Int) - x0)))
def xRF87 : XSh R87 := ⟨[], ⟨[(0, .one (.cell (.int .i64)))], []⟩, fun _ => [], fun s => .r ((Eng.look s.env 0).toI)⟩
theorem fsF87 : ∀ (N : Nat) (lk : Nat → AV) (M : List Blk), FFF87 (F87 (N + 1)) (canS sgF87 lk M) = evfn CX (T87ur1 N R87) code87 rsF87 (argsE 2 (canS sgF87 lk M).env) (canS sgF87 lk M).mem (goR CX 0 (fun _ => some xRF87)) := by intro N lk M; kernel_rfl
theorem soundF87 : ∀ N, RecOkF87 (F87 N)
  | 0, lk, M, o, h => by cases h
  | N + 1, lk, M, o, h => fn_sound hX (okT87ur1 N R87) Try.func87 hb87 rfl en87 (by kernel_rfl) (ys := fun _ => some xRF87) (fun st y h => by injection h with h; subst h; exact fun lk M => ⟨rfl, rfl⟩) ((fsF87 N lk M).symm.trans h)
def cvce87n0 : List Cv := []
def selce87n0 : St → List Nat := fun _ => []
noncomputable def ce87n0 (Fx : TF87) (R : Type) (test : List AV → List Blk → Bool) : CE R := ⟨87, test, fun args M => some (selce87n0 ⟨argEnv 0 args, M, [], .unk⟩), fun args M k => tst (Nat.beq args.length 2) (callFn CX 0 cvce87n0 sgF87 selce87n0 (FFF87 Fx) elF87 args M k)⟩
theorem okce87n0 (Fx : TF87) (h : RecOkF87 Fx) (R : Type) (test : List AV → List Blk → Bool) : CeOk CX (ce87n0 Fx R test) := ce_ok hX (fun o k => by cases o; rfl) h en87 (fun args M ids h => by injection h with h; exact ⟨rfl, h.symm⟩)
end Go.Proofs.Ytnfmdenclkdmbaa

namespace Go.Proofs.Ytnfmdenclkdmbaa
open Go Go.Eng
set_option maxRecDepth 100000

/-! ### F94v8: ceiling/num.always.1 -/
inductive R94v8 where
  | r (x0 : Int) (x1 : Bool)
abbrev TF94v8 := Int → Int → Option R94v8
def sgF94v8 : LSh := ⟨[(0, .one (.cell (.int .i64))), (1, .one (.cell (.int .i64))), (2, .one (.ptr 0 0 0))], [.var [.any] [.fn 87]]⟩
def FFF94v8 (Fx : TF94v8) (s : St) : Option R94v8 := Fx ((Eng.look s.env 0).toI) ((Eng.look s.env 1).toI)
def valF94v8 (o : R94v8) : AV := match o with | .r x0 x1 => .tup [.int .i64 x0, .bool x1]
def memF94v8 (o : R94v8) : List Blk := match o with | .r x0 x1 => [.var [.any] [.clos 87 [] []]]
def elF94v8 {R : Type} (o : R94v8) (k : AV → List Blk → Option R) : Option R := match o with | .r x0 x1 => k (.tup [.int .i64 x0, .bool x1]) [.var [.any] [.clos 87 [] []]]
def RecOkF94v8 (Fx : TF94v8) : Prop := ∀ lk M o, FFF94v8 Fx (canS sgF94v8 lk M) = some o → FCalls CX 94 1 (argsE 3 (canS sgF94v8 lk M).env) (canS sgF94v8 lk M).mem (valF94v8 o) (memF94v8 o)
noncomputable def csF94v8 (N : Nat) (R : Type) : List (CE R) := [ce87n0 (F87 N) R (fun _ _ => true)]
theorem hcsF94v8 (N : Nat) (R : Type) : AllE (CeOk CX) (csF94v8 N R) := ⟨okce87n0 (F87 N) (soundF87 N) R (fun _ _ => true), trivial⟩
noncomputable def T94v8ur1 (N : Nat) (R : Type) : LTab R := mkTab ⟨11, 2047⟩ (csF94v8 N R) (noY) [] [] []
theorem okT94v8ur1 (N : Nat) (R : Type) : (T94v8ur1 N R).Ok CX code94 := mkTab_ok (hcsF94v8 N R) (noY_ok) (trivial) (trivial) (trivial)
def rsF94v8 : List ResultVar := [.tmp 5, .tmp 6]
def F94v8 : Nat → TF94v8
  | 0 => fun _ _ => none
  | N + 1 => fun x0 x1 =>
    match F87 N x0 x1 with
    | none => none
    | some (.r rx0v1) =>
      some (.r rx0v1 true)
def xRF94v8 : XSh R94v8 := ⟨[], ⟨[(0, .one (.cell (.int .i64))), (1, .one (.cell (.bool)))], [.var [.any] [.fn 87]]⟩, fun st => [0], fun s => .r ((Eng.look s.env 0).toI) ((Eng.look s.env 1).toB)⟩
theorem fsF94v8 : ∀ (N : Nat) (lk : Nat → AV) (M : List Blk), FFF94v8 (F94v8 (N + 1)) (canS sgF94v8 lk M) = evfn CX (T94v8ur1 N R94v8) code94 rsF94v8 (argsE 3 (canS sgF94v8 lk M).env) (canS sgF94v8 lk M).mem (goRt CX 1 2 (fun _ => some xRF94v8)) := by intro N lk M; kernel_rfl
theorem soundF94v8 : ∀ N, RecOkF94v8 (F94v8 N)
  | 0, lk, M, o, h => by cases h
  | N + 1, lk, M, o, h => fn_soundt hX (okT94v8ur1 N R94v8) Try.func94 hb94 rfl en94 (by kernel_rfl) (ys := fun _ => some xRF94v8) (fun st y h => by injection h with h; subst h; exact fun lk M => ⟨rfl, rfl⟩) ((fsF94v8 N lk M).symm.trans h)
def cvce94v8n0 : List Cv := []
def selce94v8n0 : St → List Nat := fun st => [(Eng.look st.env 2).id]
noncomputable def ce94v8n0 (Fx : TF94v8) (R : Type) (test : List AV → List Blk → Bool) : CE R := ⟨94, test, fun args M => some (selce94v8n0 ⟨argEnv 0 args, M, [], .unk⟩), fun args M k => tst (Nat.beq args.length 3) (callFn CX 1 cvce94v8n0 sgF94v8 selce94v8n0 (FFF94v8 Fx) elF94v8 args M k)⟩
theorem okce94v8n0 (Fx : TF94v8) (h : RecOkF94v8 Fx) (R : Type) (test : List AV → List Blk → Bool) : CeOk CX (ce94v8n0 Fx R test) := ce_ok hX (fun o k => by cases o; rfl) h en94 (fun args M ids h => by injection h with h; exact ⟨rfl, h.symm⟩)
end Go.Proofs.Ytnfmdenclkdmbaa

namespace Go.Proofs.Ytnfmdenclkdmbaa
open Go Go.Eng
set_option maxRecDepth 100000

/-! ### F17: ceiling/num.Wrap -/
inductive R17 where
  | r (x0 : Int) (x1 : Bool)
abbrev TF17 := Int → Int → Int → Option R17
def sgF17 : LSh := ⟨[(0, .one (.cell (.int .u8))), (1, .one (.cell (.int .i64))), (2, .one (.cell (.int .i64)))], []⟩
def FFF17 (Fx : TF17) (s : St) : Option R17 := Fx ((Eng.look s.env 0).toI) ((Eng.look s.env 1).toI) ((Eng.look s.env 2).toI)
def valF17 (o : R17) : AV := match o with | .r x0 x1 => .tup [.int .i64 x0, .bool x1]
def memF17 (o : R17) : List Blk := match o with | .r x0 x1 => []
def elF17 {R : Type} (o : R17) (k : AV → List Blk → Option R) : Option R := match o with | .r x0 x1 => k (.tup [.int .i64 x0, .bool x1]) []
def RecOkF17 (Fx : TF17) : Prop := ∀ lk M o, FFF17 Fx (canS sgF17 lk M) = some o → FCalls CX 17 0 (argsE 3 (canS sgF17 lk M).env) (canS sgF17 lk M).mem (valF17 o) (memF17 o)
noncomputable def csF17b (N : Nat) (R : Type) : List (CE R) := [ce67n0 (F67 N) R (testV CX cvce67n0 sgF67 selce67n0), ce67v1n0 (F67v1 N) R (testV CX cvce67v1n0 sgF67v1 selce67v1n0), ce67v2n0 (F67v2 N) R (testV CX cvce67v2n0 sgF67v2 selce67v2n0), ce67v3n0 (F67v3 N) R (testV CX cvce67v3n0 sgF67v3 selce67v3n0), ce67v4n0 (F67v4 N) R (testV CX cvce67v4n0 sgF67v4 selce67v4n0), ce67v5n0 (F67v5 N) R (testV CX cvce67v5n0 sgF67v5 selce67v5n0), ce67v6n0 (F67v6 N) R (testV CX cvce67v6n0 sgF67v6 selce67v6n0), ce67v7n0 (F67v7 N) R (testV CX cvce67v7n0 sgF67v7 selce67v7n0), ce67v8n0 (F67v8 N) R (testV CX cvce67v8n0 sgF67v8 selce67v8n0), ce71n0 (F71 N) R (testV CX cvce71n0 sgF71 selce71n0), ce71v1n0 (F71v1 N) R (testV CX cvce71v1n0 sgF71v1 selce71v1n0), ce71v2n0 (F71v2 N) R (testV CX cvce71v2n0 sgF71v2 selce71v2n0), ce75n0 (F75 N) R (testV CX cvce75n0 sgF75 selce75n0), ce75v1n0 (F75v1 N) R (testV CX cvce75v1n0 sgF75v1 selce75v1n0), ce75v2n0 (F75v2 N) R (testV CX cvce75v2n0 sgF75v2 selce75v2n0), ce75v3n0 (F75v3 N) R (testV CX cvce75v3n0 sgF75v3 selce75v3n0), ce75v4n0 (F75v4 N) R (testV CX cvce75v4n0 sgF75v4 selce75v4n0), ce75v5n0 (F75v5 N) R (testV CX cvce75v5n0 sgF75v5 selce75v5n0), ce94n0 (F94 N) R (testV CX cvce94n0 sgF94 selce94n0), ce94v1n0 (F94v1 N) R (testV CX cvce94v1n0 sgF94v1 selce94v1n0), ce94v2n0 (F94v2 N) R (testV CX cvce94v2n0 sgF94v2 selce94v2n0), ce94v3n0 (F94v3 N) R (testV CX cvce94v3n0 sgF94v3 selce94v3n0), ce94v4n0 (F94v4 N) R (testV CX cvce94v4n0 sgF94v4 selce94v4n0), ce94v5n0 (F94v5 N) R (testV CX cvce94v5n0 sgF94v5 selce94v5n0), ce94v6n0 (F94v6 N) R (testV CX cvce94v6n0 sgF94v6 selce94v6n0), ce94v7n0 (F94v7 N) R (testV CX cvce94v7n0 sgF94v7 selce94v7n0), ce94v8n0 (F94v8 N) R (testV CX cvce94v8n0 sgF94v8 selce94v8n0), ce95n0 (F95 N) R (testV CX cvce95n0 sgF95 selce95n0), ce95v1n0 (F95v1 N) R (testV CX cvce95v1n0 sgF95v1 selce95v1n0), ce95v2n0 (F95v2 N) R (testV CX cvce95v2n0 sgF95v2 selce95v2n0), ce96n0 (F96 N) R (testV CX cvce96n0 sgF96 selce96n0), ce96v1n0 (F96v1 N) R (testV CX cvce96v1n0 sgF96v1 selce96v1n0), ce96v2n0 (F96v2 N) R (testV CX cvce96v2n0 sgF96v2 selce96v2n0), ce96v3n0 (F96v3 N) R (testV CX cvce96v3n0 sgF96v3 selce96v3n0), ce96v4n0 (F96v4 N) R (testV CX cvce96v4n0 sgF96v4 selce96v4n0), ce96v5n0 (F96v5 N) R (testV CX cvce96v5n0 sgF96v5 selce96v5n0)]
theorem hcsF17b (N : Nat) (R : Type) : AllE (CeOk CX) (csF17b N R) := ⟨okce67n0 (F67 N) (soundF67 N) R (testV CX cvce67n0 sgF67 selce67n0), okce67v1n0 (F67v1 N) (soundF67v1 N) R (testV CX cvce67v1n0 sgF67v1 selce67v1n0), okce67v2n0 (F67v2 N) (soundF67v2 N) R (testV CX cvce67v2n0 sgF67v2 selce67v2n0), okce67v3n0 (F67v3 N) (soundF67v3 N) R (testV CX cvce67v3n0 sgF67v3 selce67v3n0), okce67v4n0 (F67v4 N) (soundF67v4 N) R (testV CX cvce67v4n0 sgF67v4 selce67v4n0), okce67v5n0 (F67v5 N) (soundF67v5 N) R (testV CX cvce67v5n0 sgF67v5 selce67v5n0), okce67v6n0 (F67v6 N) (soundF67v6 N) R (testV CX cvce67v6n0 sgF67v6 selce67v6n0), okce67v7n0 (F67v7 N) (soundF67v7 N) R (testV CX cvce67v7n0 sgF67v7 selce67v7n0), okce67v8n0 (F67v8 N) (soundF67v8 N) R (testV CX cvce67v8n0 sgF67v8 selce67v8n0), okce71n0 (F71 N) (soundF71 N) R (testV CX cvce71n0 sgF71 selce71n0), okce71v1n0 (F71v1 N) (soundF71v1 N) R (testV CX cvce71v1n0 sgF71v1 selce71v1n0), okce71v2n0 (F71v2 N) (soundF71v2 N) R (testV CX cvce71v2n0 sgF71v2 selce71v2n0), okce75n0 (F75 N) (soundF75 N) R (testV CX cvce75n0 sgF75 selce75n0), okce75v1n0 (F75v1 N) (soundF75v1 N) R (testV CX cvce75v1n0 sgF75v1 selce75v1n0), okce75v2n0 (F75v2 N) (soundF75v2 N) R (testV CX cvce75v2n0 sgF75v2 selce75v2n0), okce75v3n0 (F75v3 N) (soundF75v3 N) R (testV CX cvce75v3n0 sgF75v3 selce75v3n0), okce75v4n0 (F75v4 N) (soundF75v4 N) R (testV CX cvce75v4n0 sgF75v4 selce75v4n0), okce75v5n0 (F75v5 N) (soundF75v5 N) R (testV CX cvce75v5n0 sgF75v5 selce75v5n0), okce94n0 (F94 N) (soundF94 N) R (testV CX cvce94n0 sgF94 selce94n0), okce94v1n0 (F94v1 N) (soundF94v1 N) R (testV CX cvce94v1n0 sgF94v1 selce94v1n0), okce94v2n0 (F94v2 N) (soundF94v2 N) R (testV CX cvce94v2n0 sgF94v2 selce94v2n0), okce94v3n0 (F94v3 N) (soundF94v3 N) R (testV CX cvce94v3n0 sgF94v3 selce94v3n0), okce94v4n0 (F94v4 N) (soundF94v4 N) R (testV CX cvce94v4n0 sgF94v4 selce94v4n0), okce94v5n0 (F94v5 N) (soundF94v5 N) R (testV CX cvce94v5n0 sgF94v5 selce94v5n0), okce94v6n0 (F94v6 N) (soundF94v6 N) R (testV CX cvce94v6n0 sgF94v6 selce94v6n0), okce94v7n0 (F94v7 N) (soundF94v7 N) R (testV CX cvce94v7n0 sgF94v7 selce94v7n0), okce94v8n0 (F94v8 N) (soundF94v8 N) R (testV CX cvce94v8n0 sgF94v8 selce94v8n0), okce95n0 (F95 N) (soundF95 N) R (testV CX cvce95n0 sgF95 selce95n0), okce95v1n0 (F95v1 N) (soundF95v1 N) R (testV CX cvce95v1n0 sgF95v1 selce95v1n0), okce95v2n0 (F95v2 N) (soundF95v2 N) R (testV CX cvce95v2n0 sgF95v2 selce95v2n0), okce96n0 (F96 N) (soundF96 N) R (testV CX cvce96n0 sgF96 selce96n0), okce96v1n0 (F96v1 N) (soundF96v1 N) R (testV CX cvce96v1n0 sgF96v1 selce96v1n0), okce96v2n0 (F96v2 N) (soundF96v2 N) R (testV CX cvce96v2n0 sgF96v2 selce96v2n0), okce96v3n0 (F96v3 N) (soundF96v3 N) R (testV CX cvce96v3n0 sgF96v3 selce96v3n0), okce96v4n0 (F96v4 N) (soundF96v4 N) R (testV CX cvce96v4n0 sgF96v4 selce96v4n0), okce96v5n0 (F96v5 N) (soundF96v5 N) R (testV CX cvce96v5n0 sgF96v5 selce96v5n0), trivial⟩
def rs17n38 : List ResultVar := [.tmp 0]
noncomputable def T17n38ur1 (N : Nat) (R : Type) : LTab R := mkTab ⟨21, 2097151⟩ (csF17b N R) (noY) [] [] []
theorem okT17n38ur1 (N : Nat) (R : Type) : (T17n38ur1 N R).Ok CX code38 := mkTab_ok (hcsF17b N R) (noY_ok) (trivial) (trivial) (trivial)
noncomputable def csF17 (N : Nat) (R : Type) : List (CE R) := ⟨38, fun _ _ => true, fun _ M => some (List.range M.length), fun args M k => evfn CX (T17n38ur1 N R) code38 rs17n38 args M fun x M' => tst (Nat.ble M.length M'.length) (k x M')⟩ :: csF17b N R
theorem hcsF17 (N : Nat) (R : Type) : AllE (CeOk CX) (csF17 N R) := ⟨inl1_ok (run := fun args M k => evfn CX (T17n38ur1 N R) code38 rs17n38 args M k) fun {args M k r} h => evfn_sound hX (okT17n38ur1 N R) Try.func38 hb38 rfl en38 (by kernel_rfl) h, hcsF17b N R⟩
noncomputable def T17ur1 (N : Nat) (R : Type) : LTab R := mkTab ⟨35, 34359738367⟩ (csF17 N R) (noY) [] [] []
theorem okT17ur1 (N : Nat) (R : Type) : (T17ur1 N R).Ok CX code17 := mkTab_ok (hcsF17 N R) (noY_ok) (trivial) (trivial) (trivial)
def rsF17 : List ResultVar := [.tmp 6, .tmp 7]
def F17 : Nat → TF17
  | 0 => fun _ _ _ => none
  | N + 1 => fun x0 x1 x2 =>
    match x0 == (1 : Int) with
    | true =>
      some (.r (IntKind.wrap .i64 (x1 + x2)) true)
    | false =>
      match x0 == (2 : Int) with
      | true =>
        some (.r (IntKind.wrap .i64 (x1 - x2)) true)
      | false =>
        match F67 N  with
        | none => none
        | some (.r) =>
          match F67v1 N  with
          | none => none
          | some (.r) =>
            match F67v2 N  with
            | none => none
            | some (.r) =>
              match F71 N  with
              | none => none
              | some (.r) =>
                match F71v1 N  with
                | none => none
                | some (.r) =>
                  match F71v2 N  with
                  | none => none
                  | some (.r) =>
                    match F75 N  with
                    | none => none
                    | some (.r) =>
                      match F75v1 N  with
                      | none => none
                      | some (.r) =>
                        match F75v2 N  with
                        | none => none
                        | some (.r) =>
                          match F75v3 N  with
                          | none => none
                          | some (.r) =>
                            match F75v4 N  with
                            | none => none
                            | some (.r) =>
                              match F75v5 N  with
                              | none => none
                              | some (.r) =>
                                match F67v3 N  with
                                | none => none
                                | some (.r) =>
                                  match F67v4 N  with
                                  | none => none
                                  | some (.r) =>
                                    match F67v5 N  with
                                    | none => none
                                    | some (.r) =>
                                      match F67v6 N  with
                                      | none => none
                                      | some (.r) =>
                                        match F67v7 N  with
                                        | none => none
                                        | some (.r) =>
                                          match F67v8 N  with
                                          | none => none
                                          | some (.r) =>
                                            match x0 == (1 : Int) with
                                            | true =>
                                              match F94 N x1 x2 with
                                              | none => none
                                              | some (.r rx0v19 rx1v19) =>
                                                some (.r rx0v19 rx1v19)
                                            | false =>
                                              match x0 == (2 : Int) with
                                              | true =>
                                                match F94v1 N x1 x2 with
                                                | none => none
                                                | some (.r rx0v20 rx1v20) =>
                                                  some (.r rx0v20 rx1v20)
                                              | false =>
                                                match x0 == (3 : Int) with
                                                | true =>
                                                  match F94v2 N x1 x2 with
                                                  | none => none
                                                  | some (.r rx0v21 rx1v21) =>
                                                    some (.r rx0v21 rx1v21)
                                                | false =>
                                                  match x0 == (4 : Int) with
                                                  | true =>
                                                    match F95 N x1 x2 with
                                                    | none => none
                                                    | some (.r rx0v22 rx1v22) =>
                                                      some (.r rx0v22 rx1v22)
                                                  | false =>
                                                    match x0 == (5 : Int) with
                                                    | true =>
                                                      match F95v1 N x1 x2 with
                                                      | none => none
                                                      | some (.r rx0v23 rx1v23) =>
                                                        some (.r rx0v23 rx1v23)
                                                    | false =>
                                                      match x0 == (6 : Int) with
                                                      | true =>
                                                        match F95v2 N x1 x2 with
                                                        | none => none
                                                        | some (.r rx0v24 rx1v24) =>
                                                          some (.r rx0v24 rx1v24)
                                                      | false =>
                                                        match x0 == (7 : Int) with
                                                        | true =>
                                                          match F96 N x1 x2 with
                                                          | none => none
                                                          | some (.r rx0v25 rx1v25) =>
                                                            some (.r rx0v25 rx1v25)
                                                        | false =>
                                                          match x0 == (8 : Int) with
                                                          | true =>
                                                            match F96v1 N x1 x2 with
                                                            | none => none
                                                            | some (.r rx0v26 rx1v26) =>
                                                              some (.r rx0v26 rx1v26)
                                                          | false =>
                                                            match x0 == (9 : Int) with
                                                            | true =>
                                                              match F96v2 N x1 x2 with
                                                              | none => none
                                                              | some (.r rx0v27 rx1v27) =>
                                                                some (.r rx0v27 rx1v27)
                                                            | false =>
                                                              match x0 == (10 : Int) with
                                                              | true =>
                                                                match F96v3 N x1 x2 with
                                                                | none => none
                                                                | some (.r rx0v28 rx1v28) =>
                                                                  some (.r rx0v28 rx1v28)
                                                              | false =>
                                                                match x0 == (11 : Int) with
                                                                | true =>
                                                                  match F96v4 N x1 x2 with
                                                                  | none => none
                                                                  | some (.r rx0v29 rx1v29) =>
                                                                    some (.r rx0v29 rx1v29)
                                                                | false =>
                                                                  match x0 == (12 : Int) with
                                                                  | true =>
                                                                    match F96v5 N x1 x2 with
                                                                    | none => none
                                                                    | some (.r rx0v30 rx1v30) =>
                                                                      some (.r rx0v30 rx1v30)
                                                                  | false =>
                                                                    match x0 == (13 : Int) with
                                                                    | true =>
                                                                      match F94v3 N x1 x2 with
                                                                      | none => none
                                                                      | some (.r rx0v31 rx1v31) =>
                                                                        some (.r rx0v31 rx1v31)
                                                                    | false =>
                                                                      match x0 == (14 : Int) with
                                                                      | true =>
                                                                        match F94v4 N x1 x2 with
                                                                        | none => none
                                                                        | some (.r rx0v32 rx1v32) =>
                                                                          some (.r rx0v32 rx1v32)
                                                                      | false =>
                                                                        match x0 == (15 : Int) with
                                                                        | true =>
                                                                          match F94v5 N x1 x2 with
                                                                          | none => none
                                                                          | some (.r rx0v33 rx1v33) =>
                                                                            some (.r rx0v33 rx1v33)
                                                                        | false =>
                                                                          match x0 == (16 : Int) with
                                                                          | true =>
                                                                            match F94v6 N x1 x2 with
                                                                            | none => none
                                                                            | some (.r rx0v34 rx1v34) =>
                                                                              some (.r rx0v34 rx1v34)
                                                                          | false =>
                                                                            match x0 == (17 : Int) with
                                                                            | true =>
                                                                              match F94v7 N x1 x2 with
                                                                              | none => none
                                                                              | some (.r rx0v35 rx1v35) =>
                                                                                some (.r rx0v35 rx1v35)
                                                                            | false =>
                                                                              match x0 == (18 : Int) with
                                                                              | true =>
                                                                                match F94v8 N x1 x2 with
                                                                                | none => none
                                                                                | some (.r rx0v36 rx1v36) =>
                                                                                  some (.r rx0v36 rx1v36)
                                                                              | false =>
                                                                                some (.r 0 false)
def xRF17 : XSh R17 := ⟨[], ⟨[(0, .one (.cell (.int .i64))), (1, .one (.cell (.bool)))], []⟩, fun _ => [], fun s => .r ((Eng.look s.env 0).toI) ((Eng.look s.env 1).toB)⟩
theorem fsF17 : ∀ (N : Nat) (lk : Nat → AV) (M : List Blk), FFF17 (F17 (N + 1)) (canS sgF17 lk M) = evfn CX (T17ur1 N R17) code17 rsF17 (argsE 3 (canS sgF17 lk M).env) (canS sgF17 lk M).mem (goRt CX 0 2 (fun _ => some xRF17)) := by intro N lk M; kernel_rfl
theorem soundF17 : ∀ N, RecOkF17 (F17 N)
  | 0, lk, M, o, h => by cases h
  | N + 1, lk, M, o, h => fn_soundt hX (okT17ur1 N R17) Try.func17 hb17 rfl en17 (by kernel_rfl) (ys := fun _ => some xRF17) (fun st y h => by injection h with h; subst h; exact fun lk M => ⟨rfl, rfl⟩) ((fsF17 N lk M).symm.trans h)
def cvce17n0 : List Cv := []
def selce17n0 : St → List Nat := fun _ => []
noncomputable def ce17n0 (Fx : TF17) (R : Type) (test : List AV → List Blk → Bool) : CE R := ⟨17, test, fun args M => some (selce17n0 ⟨argEnv 0 args, M, [], .unk⟩), fun args M k => tst (Nat.beq args.length 3) (callFn CX 0 cvce17n0 sgF17 selce17n0 (FFF17 Fx) elF17 args M k)⟩
theorem okce17n0 (Fx : TF17) (h : RecOkF17 Fx) (R : Type) (test : List AV → List Blk → Bool) : CeOk CX (ce17n0 Fx R test) := ce_ok hX (fun o k => by cases o; rfl) h en17 (fun args M ids h => by injection h with h; exact ⟨rfl, h.symm⟩)
end Go.Proofs.Ytnfmdenclkdmbaa

namespace Go.Proofs.Ytnfmdenclkdmbaa
open Go Go.Eng
set_option maxRecDepth 100000

/-! ### F12: ceiling/num.Apply -/
inductive R12 where
  | r (x0 : Int) (x1 : Bool)
abbrev TF12 := Int → Int → Int → Option R12
def sgF12 : LSh := ⟨[(0, .one (.cell (.int .u8))), (1, .one (.cell (.int .i64))), (2, .one (.cell (.int .i64)))], []⟩
def FFF12 (Fx : TF12) (s : St) : Option R12 := Fx ((Eng.look s.env 0).toI) ((Eng.look s.env 1).toI) ((Eng.look s.env 2).toI)
def valF12 (o : R12) : AV := match o with | .r x0 x1 => .tup [.int .i64 x0, .bool x1]
def memF12 (o : R12) : List Blk := match o with | .r x0 x1 => []
def elF12 {R : Type} (o : R12) (k : AV → List Blk → Option R) : Option R := match o with | .r x0 x1 => k (.tup [.int .i64 x0, .bool x1]) []
def RecOkF12 (Fx : TF12) : Prop := ∀ lk M o, FFF12 Fx (canS sgF12 lk M) = some o → FCalls CX 12 0 (argsE 3 (canS sgF12 lk M).env) (canS sgF12 lk M).mem (valF12 o) (memF12 o)
noncomputable def csF12 (N : Nat) (R : Type) : List (CE R) := [ce14n0 (F14 N) R (fun _ _ => true), ce17n0 (F17 N) R (fun _ _ => true), ce33n0 (F33 N) R (fun _ _ => true)]
theorem hcsF12 (N : Nat) (R : Type) : AllE (CeOk CX) (csF12 N R) := ⟨okce14n0 (F14 N) (soundF14 N) R (fun _ _ => true), okce17n0 (F17 N) (soundF17 N) R (fun _ _ => true), okce33n0 (F33 N) (soundF33 N) R (fun _ _ => true), trivial⟩
inductive OJ12a6 where
  | nx (x2 : Int)
def J12a6 (N : Nat) : Int → Int → Option OJ12a6 := fun x0 x2 =>
    match F33 N x0 with
    | none => none
    | some (.r rx0v1) =>
      match rx0v1 with
      | true =>
        some (.nx 0)
      | false =>
        some (.nx x2)
def LFJ12a6 (N : Nat) (s : St) : Option OJ12a6 := J12a6 N ((Eng.look s.env 0).toI) ((Eng.look s.env 2).toI)
def sgJ12a6 : LSh := ⟨[(0, .one (.cell (.int .u8))), (2, .one (.cell (.int .i64)))], []⟩
def ceJ12a6 : List Cv := []
def seJ12a6 : St → List Nat := fun _ => []
def xJ12a6wnx : XSh OJ12a6 := ⟨[], ⟨[(2, .one (.cell (.int .i64)))], []⟩, fun _ => [], fun s => .nx ((Eng.look s.env 2).toI)⟩
def xsJ12a6 : Ex → St → Option (XSh OJ12a6) := fun e st => match e with
  | .normal => some xJ12a6wnx
  | _ => none
def exJ12a6 (o : OJ12a6) : Ex := match o with | .nx x2 => .normal
def stJ12a6 (o : OJ12a6) : St := match o with | .nx x2 => ⟨[(2, .int .i64 x2)], [], [], .unk⟩
def elJ12a6 {R : Type} (o : OJ12a6) (k : Ex → St → Option R) : Option R := match o with | .nx x2 => k .normal ⟨[(2, .int .i64 x2)], [], [], .unk⟩
theorem heJ12a6 {R : Type} (o : OJ12a6) (k : Ex → St → Option R) : elJ12a6 o k = k (exJ12a6 o) (stJ12a6 o) := by cases o <;> rfl
theorem hxJ12a6 : ∀ e st x, xsJ12a6 e st = some x → outOk x e exJ12a6 stJ12a6 := by
  intro e st x h
  unfold xsJ12a6 at h
  repeat' split at h
  all_goals first
    | (injection h with h; subst h; exact fun lk M => ⟨rfl, rfl⟩)
    | cases h
noncomputable def T12uc6 (N : Nat) (R : Type) : LTab R := mkTab ⟨54, 6148⟩ (csF12 N R) (noY) [] [] []
theorem okT12uc6 (N : Nat) (R : Type) : (T12uc6 N R).Ok CX code12 := mkTab_ok (hcsF12 N R) (noY_ok) (trivial) (trivial) (trivial)
noncomputable def bdJ12a6 : Code := (codeAt code12 [false, true]).getD .skip
theorem hsJ12a6 (N : Nat) : ∀ (lk : Nat → AV) (M : List Blk), LFJ12a6 N (canS sgJ12a6 lk M) = evk CX (T12uc6 N OJ12a6) bdJ12a6 6 (canS sgJ12a6 lk M) (kontX CX 0 xsJ12a6) := by intro lk M; kernel_rfl
inductive OJ12a14 where
  | nx (x8 : Bool)
def J12a14 (N : Nat) : Int → Option OJ12a14 := fun x0 =>
    match decide ((13 : Int) ≤ x0) with
    | true =>
      match decide (x0 ≤ (15 : Int)) with
      | true =>
        some (.nx true)
      | false =>
        some (.nx (x0 == (18 : Int)))
    | false =>
      some (.nx (x0 == (18 : Int)))
def LFJ12a14 (N : Nat) (s : St) : Option OJ12a14 := J12a14 N ((Eng.look s.env 0).toI)
def sgJ12a14 : LSh := ⟨[(0, .one (.cell (.int .u8)))], []⟩
def ceJ12a14 : List Cv := []
def seJ12a14 : St → List Nat := fun _ => []
def xJ12a14wnx : XSh OJ12a14 := ⟨[], ⟨[(8, .one (.cell (.bool)))], []⟩, fun _ => [], fun s => .nx ((Eng.look s.env 8).toB)⟩
def xsJ12a14 : Ex → St → Option (XSh OJ12a14) := fun e st => match e with
  | .normal => some xJ12a14wnx
  | _ => none
def exJ12a14 (o : OJ12a14) : Ex := match o with | .nx x8 => .normal
def stJ12a14 (o : OJ12a14) : St := match o with | .nx x8 => ⟨[(8, .bool x8)], [], [], .unk⟩
def elJ12a14 {R : Type} (o : OJ12a14) (k : Ex → St → Option R) : Option R := match o with | .nx x8 => k .normal ⟨[(8, .bool x8)], [], [], .unk⟩
theorem heJ12a14 {R : Type} (o : OJ12a14) (k : Ex → St → Option R) : elJ12a14 o k = k (exJ12a14 o) (stJ12a14 o) := by cases o <;> rfl
theorem hxJ12a14 : ∀ e st x, xsJ12a14 e st = some x → outOk x e exJ12a14 stJ12a14 := by
  intro e st x h
  unfold xsJ12a14 at h
  repeat' split at h
  all_goals first
    | (injection h with h; subst h; exact fun lk M => ⟨rfl, rfl⟩)
    | cases h
noncomputable def T12uc14 (N : Nat) (R : Type) : LTab R := mkTab ⟨54, 8380672⟩ (csF12 N R) (noY) [] [] []
theorem okT12uc14 (N : Nat) (R : Type) : (T12uc14 N R).Ok CX code12 := mkTab_ok (hcsF12 N R) (noY_ok) (trivial) (trivial) (trivial)
noncomputable def bdJ12a14 : Code := (codeAt code12 [false, true, true]).getD .skip
theorem hsJ12a14 (N : Nat) : ∀ (lk : Nat → AV) (M : List Blk), LFJ12a14 N (canS sgJ12a14 lk M) = evk CX (T12uc14 N OJ12a14) bdJ12a14 14 (canS sgJ12a14 lk M) (kontX CX 0 xsJ12a14) := by intro lk M; kernel_rfl
inductive OJ12a30 where
  | nx
  | ret (x6 : Int) (x7 : Bool)
def J12a30 (N : Nat) : Int → Int → Bool → Option OJ12a30 := fun x1 x2 x8 =>
    match F14 N x1 with
    | none => none
    | some (.r rx0v4) =>
      match !rx0v4 with
      | true =>
        some (.ret 0 false)
      | false =>
        match F14 N x2 with
        | none => none
        | some (.r rx0v5) =>
          match !rx0v5 with
          | true =>
            some (.ret 0 false)
          | false =>
            match x8 with
            | true =>
              match (IntKind.wrap .i64 ((BitVec.ofInt 64 (IntKind.wrap .i64 ((BitVec.ofInt 64 x1 ||| BitVec.ofInt 64 x2).toNat : Int)) &&& ~~~ BitVec.ofInt 64 (1 : Int)).toNat : Int)) != (0 : Int) with
              | true =>
                some (.ret 0 false)
              | false =>
                some .nx
            | false =>
              some .nx
def LFJ12a30 (N : Nat) (s : St) : Option OJ12a30 := J12a30 N ((Eng.look s.env 1).toI) ((Eng.look s.env 2).toI) ((Eng.look s.env 8).toB)
def sgJ12a30 : LSh := ⟨[(1, .one (.cell (.int .i64))), (2, .one (.cell (.int .i64))), (8, .one (.cell (.bool)))], []⟩
def ceJ12a30 : List Cv := []
def seJ12a30 : St → List Nat := fun _ => []
def xJ12a30wnx : XSh OJ12a30 := ⟨[], ⟨[], []⟩, fun _ => [], fun s => .nx ⟩
def xJ12a30wret : XSh OJ12a30 := ⟨[], ⟨[(6, .one (.cell (.int .i64))), (7, .one (.cell (.bool)))], []⟩, fun _ => [], fun s => .ret ((Eng.look s.env 6).toI) ((Eng.look s.env 7).toB)⟩
def xsJ12a30 : Ex → St → Option (XSh OJ12a30) := fun e st => match e with
  | .normal => some xJ12a30wnx
  | .ret => some xJ12a30wret
  | _ => none
def exJ12a30 (o : OJ12a30) : Ex := match o with | .nx => .normal | .ret x6 x7 => .ret
def stJ12a30 (o : OJ12a30) : St := match o with | .nx => ⟨[], [], [], .unk⟩ | .ret x6 x7 => ⟨[(6, .int .i64 x6), (7, .bool x7)], [], [], .unk⟩
def elJ12a30 {R : Type} (o : OJ12a30) (k : Ex → St → Option R) : Option R := match o with | .nx => k .normal ⟨[], [], [], .unk⟩ | .ret x6 x7 => k .ret ⟨[(6, .int .i64 x6), (7, .bool x7)], [], [], .unk⟩
theorem heJ12a30 {R : Type} (o : OJ12a30) (k : Ex → St → Option R) : elJ12a30 o k = k (exJ12a30 o) (stJ12a30 o) := by cases o <;> rfl
theorem hxJ12a30 : ∀ e st x, xsJ12a30 e st = some x → outOk x e exJ12a30 stJ12a30 := by
  intro e st x h
  unfold xsJ12a30 at h
  repeat' split at h
  all_goals first
    | (injection h with h; subst h; exact fun lk M => ⟨rfl, rfl⟩)
    | cases h
noncomputable def T12uc30 (N : Nat) (R : Type) : LTab R := mkTab ⟨54, 2199014867136⟩ (csF12 N R) (noY) [] [] []
theorem okT12uc30 (N : Nat) (R : Type) : (T12uc30 N R).Ok CX code12 := mkTab_ok (hcsF12 N R) (noY_ok) (trivial) (trivial) (trivial)
noncomputable def bdJ12a30 : Code := (codeAt code12 [false, true, true, true]).getD .skip
theorem hsJ12a30 (N : Nat) : ∀ (lk : Nat → AV) (M : List Blk), LFJ12a30 N (canS sgJ12a30 lk M) = evk CX (T12uc30 N OJ12a30) bdJ12a30 30 (canS sgJ12a30 lk M) (kontX CX 0 xsJ12a30) := by intro lk M; kernel_rfl
noncomputable def T12ur1 (N : Nat) (R : Type) : LTab R := mkTab ⟨54, 18014398509481983⟩ (csF12 N R) (noY) [] [] [(6, fun st k => callLoop CX 0 6148 ceJ12a6 sgJ12a6 seJ12a6 ⟨54, 18014398509481983⟩ (LFJ12a6 N) elJ12a6 st k), (14, fun st k => callLoop CX 0 8380672 ceJ12a14 sgJ12a14 seJ12a14 ⟨54, 18014398509481983⟩ (LFJ12a14 N) elJ12a14 st k), (30, fun st k => callLoop CX 0 2199014867136 ceJ12a30 sgJ12a30 seJ12a30 ⟨54, 18014398509481983⟩ (LFJ12a30 N) elJ12a30 st k)]
theorem okT12ur1 (N : Nat) (R : Type) : (T12ur1 N R).Ok CX code12 := mkTab_ok (hcsF12 N R) (noY_ok) (trivial) (trivial) (⟨cut_ok hX (path := [false, true]) (by kernel_rfl) (by rfl) (okT12uc6 N OJ12a6) (hsJ12a6 N) hxJ12a6 rfl heJ12a6, cut_ok hX (path := [false, true, true]) (by kernel_rfl) (by rfl) (okT12uc14 N OJ12a14) (hsJ12a14 N) hxJ12a14 rfl heJ12a14, cut_ok hX (path := [false, true, true, true]) (by kernel_rfl) (by rfl) (okT12uc30 N OJ12a30) (hsJ12a30 N) hxJ12a30 rfl heJ12a30, trivial⟩)
def rsF12 : List ResultVar := [.tmp 6, .tmp 7]
def F12 : Nat → TF12
  | 0 => fun _ _ _ => none
  | N + 1 => fun x0 x1 x2 =>
    match J12a6 N x0 x2 with
    | none => none
    | some (.nx x2v2) =>
      match J12a14 N x0 with
      | none => none
      | some (.nx x8v3) =>
        match J12a30 N x1 x2v2 x8v3 with
        | none => none
        | some (.nx) =>
          match F17 N x0 x1 x2v2 with
          | none => none
          | some (.r rx0v7 rx1v7) =>
            match rx1v7 with
            | true =>
              match F14 N rx0v7 with
              | none => none
              | some (.r rx0v8) =>
                match rx0v8 with
                | true =>
                  some (.r rx0v7 true)
                | false =>
                  some (.r 0 false)
            | false =>
              some (.r 0 false)
        | some (.ret x6v9 x7v9) =>
          some (.r x6v9 x7v9)
def xRF12 : XSh R12 := ⟨[], ⟨[(0, .one (.cell (.int .i64))), (1, .one (.cell (.bool)))], []⟩, fun _ => [], fun s => .r ((Eng.look s.env 0).toI) ((Eng.look s.env 1).toB)⟩
theorem fsF12 : ∀ (N : Nat) (lk : Nat → AV) (M : List Blk), FFF12 (F12 (N + 1)) (canS sgF12 lk M) = evfn CX (T12ur1 N R12) code12 rsF12 (argsE 3 (canS sgF12 lk M).env) (canS sgF12 lk M).mem (goRt CX 0 2 (fun _ => some xRF12)) := by intro N lk M; kernel_rfl
theorem soundF12 : ∀ N, RecOkF12 (F12 N)
  | 0, lk, M, o, h => by cases h
  | N + 1, lk, M, o, h => fn_soundt hX (okT12ur1 N R12) Try.func12 hb12 rfl en12 (by kernel_rfl) (ys := fun _ => some xRF12) (fun st y h => by injection h with h; subst h; exact fun lk M => ⟨rfl, rfl⟩) ((fsF12 N lk M).symm.trans h)
def cvce12n0 : List Cv := []
def selce12n0 : St → List Nat := fun _ => []
noncomputable def ce12n0 (Fx : TF12) (R : Type) (test : List AV → List Blk → Bool) : CE R := ⟨12, test, fun args M => some (selce12n0 ⟨argEnv 0 args, M, [], .unk⟩), fun args M k => tst (Nat.beq args.length 3) (callFn CX 0 cvce12n0 sgF12 selce12n0 (FFF12 Fx) elF12 args M k)⟩
theorem okce12n0 (Fx : TF12) (h : RecOkF12 Fx) (R : Type) (test : List AV → List Blk → Bool) : CeOk CX (ce12n0 Fx R test) := ce_ok hX (fun o k => by cases o; rfl) h en12 (fun args M ids h => by injection h with h; exact ⟨rfl, h.symm⟩)
end Go.Proofs.Ytnfmdenclkdmbaa

namespace Go.Proofs.Ytnfmdenclkdmbaa
open Go Go.Eng
set_option maxRecDepth 100000

/-! ### F34: ceiling/ceilingref01.Unary -/
inductive R34 where
  | r (x0 : Bool)
abbrev TF34 := Int → Option R34
def sgF34 : LSh := ⟨[(0, .one (.cell (.int .u8)))], []⟩
def FFF34 (Fx : TF34) (s : St) : Option R34 := Fx ((Eng.look s.env 0).toI)
def valF34 (o : R34) : AV := match o with | .r x0 => .bool x0
def memF34 (o : R34) : List Blk := match o with | .r x0 => []
def elF34 {R : Type} (o : R34) (k : AV → List Blk → Option R) : Option R := match o with | .r x0 => k (.bool x0) []
def RecOkF34 (Fx : TF34) : Prop := ∀ lk M o, FFF34 Fx (canS sgF34 lk M) = some o → FCalls CX 34 0 (argsE 1 (canS sgF34 lk M).env) (canS sgF34 lk M).mem (valF34 o) (memF34 o)
noncomputable def csF34 (N : Nat) (R : Type) : List (CE R) := []
theorem hcsF34 (N : Nat) (R : Type) : AllE (CeOk CX) (csF34 N R) := trivial
noncomputable def T34ur1 (N : Nat) (R : Type) : LTab R := mkTab ⟨13, 8191⟩ (csF34 N R) (noY) [] [] []
theorem okT34ur1 (N : Nat) (R : Type) : (T34ur1 N R).Ok CX code34 := mkTab_ok (hcsF34 N R) (noY_ok) (trivial) (trivial) (trivial)
def rsF34 : List ResultVar := [.tmp 2]
def F34 : Nat → TF34
  | 0 => fun _ => none
  | N + 1 => fun x0 =>
    match x0 == (16 : Int) with
    | true =>
      some (.r true)
    | false =>
      match x0 == (17 : Int) with
      | true =>
        some (.r true)
      | false =>
        some (.r (x0 == (18 : Int)))
def xRF34 : XSh R34 := ⟨[], ⟨[(0, .one (.cell (.bool)))], []⟩, fun _ => [], fun s => .r ((Eng.look s.env 0).toB)⟩
theorem fsF34 : ∀ (N : Nat) (lk : Nat → AV) (M : List Blk), FFF34 (F34 (N + 1)) (canS sgF34 lk M) = evfn CX (T34ur1 N R34) code34 rsF34 (argsE 1 (canS sgF34 lk M).env) (canS sgF34 lk M).mem (goR CX 0 (fun _ => some xRF34)) := by intro N lk M; kernel_rfl
theorem soundF34 : ∀ N, RecOkF34 (F34 N)
  | 0, lk, M, o, h => by cases h
  | N + 1, lk, M, o, h => fn_sound hX (okT34ur1 N R34) Try.func34 hb34 rfl en34 (by kernel_rfl) (ys := fun _ => some xRF34) (fun st y h => by injection h with h; subst h; exact fun lk M => ⟨rfl, rfl⟩) ((fsF34 N lk M).symm.trans h)
def cvce34n0 : List Cv := []
def selce34n0 : St → List Nat := fun _ => []
noncomputable def ce34n0 (Fx : TF34) (R : Type) (test : List AV → List Blk → Bool) : CE R := ⟨34, test, fun args M => some (selce34n0 ⟨argEnv 0 args, M, [], .unk⟩), fun args M k => tst (Nat.beq args.length 1) (callFn CX 0 cvce34n0 sgF34 selce34n0 (FFF34 Fx) elF34 args M k)⟩
theorem okce34n0 (Fx : TF34) (h : RecOkF34 Fx) (R : Type) (test : List AV → List Blk → Bool) : CeOk CX (ce34n0 Fx R test) := ce_ok hX (fun o k => by cases o; rfl) h en34 (fun args M ids h => by injection h with h; exact ⟨rfl, h.symm⟩)
end Go.Proofs.Ytnfmdenclkdmbaa

namespace Go.Proofs.Ytnfmdenclkdmbaa
open Go Go.Eng
set_option maxRecDepth 100000

/-! ### F15: ceiling/ceilingref01.In -/
inductive R15 where
  | r (x0 : Bool)
abbrev TF15 := Int → Option R15
def sgF15 : LSh := ⟨[(0, .one (.cell (.int .i64)))], []⟩
def FFF15 (Fx : TF15) (s : St) : Option R15 := Fx ((Eng.look s.env 0).toI)
def valF15 (o : R15) : AV := match o with | .r x0 => .bool x0
def memF15 (o : R15) : List Blk := match o with | .r x0 => []
def elF15 {R : Type} (o : R15) (k : AV → List Blk → Option R) : Option R := match o with | .r x0 => k (.bool x0) []
def RecOkF15 (Fx : TF15) : Prop := ∀ lk M o, FFF15 Fx (canS sgF15 lk M) = some o → FCalls CX 15 0 (argsE 1 (canS sgF15 lk M).env) (canS sgF15 lk M).mem (valF15 o) (memF15 o)
noncomputable def csF15 (N : Nat) (R : Type) : List (CE R) := []
theorem hcsF15 (N : Nat) (R : Type) : AllE (CeOk CX) (csF15 N R) := trivial
noncomputable def T15ur1 (N : Nat) (R : Type) : LTab R := mkTab ⟨9, 511⟩ (csF15 N R) (noY) [] [] []
theorem okT15ur1 (N : Nat) (R : Type) : (T15ur1 N R).Ok CX code15 := mkTab_ok (hcsF15 N R) (noY_ok) (trivial) (trivial) (trivial)
def rsF15 : List ResultVar := [.tmp 2]
def F15 : Nat → TF15
  | 0 => fun _ => none
  | N + 1 => fun x0 =>
    match decide ((-2147483648 : Int) ≤ x0) with
    | true =>
      some (.r (decide (x0 ≤ (2147483647 : Int))))
    | false =>
      some (.r false)
def xRF15 : XSh R15 := ⟨[], ⟨[(0, .one (.cell (.bool)))], []⟩, fun _ => [], fun s => .r ((Eng.look s.env 0).toB)⟩
theorem fsF15 : ∀ (N : Nat) (lk : Nat → AV) (M : List Blk), FFF15 (F15 (N + 1)) (canS sgF15 lk M) = evfn CX (T15ur1 N R15) code15 rsF15 (argsE 1 (canS sgF15 lk M).env) (canS sgF15 lk M).mem (goR CX 0 (fun _ => some xRF15)) := by intro N lk M; kernel_rfl
theorem soundF15 : ∀ N, RecOkF15 (F15 N)
  | 0, lk, M, o, h => by cases h
  | N + 1, lk, M, o, h => fn_sound hX (okT15ur1 N R15) Try.func15 hb15 rfl en15 (by kernel_rfl) (ys := fun _ => some xRF15) (fun st y h => by injection h with h; subst h; exact fun lk M => ⟨rfl, rfl⟩) ((fsF15 N lk M).symm.trans h)
def cvce15n0 : List Cv := []
def selce15n0 : St → List Nat := fun _ => []
noncomputable def ce15n0 (Fx : TF15) (R : Type) (test : List AV → List Blk → Bool) : CE R := ⟨15, test, fun args M => some (selce15n0 ⟨argEnv 0 args, M, [], .unk⟩), fun args M k => tst (Nat.beq args.length 1) (callFn CX 0 cvce15n0 sgF15 selce15n0 (FFF15 Fx) elF15 args M k)⟩
theorem okce15n0 (Fx : TF15) (h : RecOkF15 Fx) (R : Type) (test : List AV → List Blk → Bool) : CeOk CX (ce15n0 Fx R test) := ce_ok hX (fun o k => by cases o; rfl) h en15 (fun args M ids h => by injection h with h; exact ⟨rfl, h.symm⟩)
end Go.Proofs.Ytnfmdenclkdmbaa

namespace Go.Proofs.Ytnfmdenclkdmbaa
open Go Go.Eng
set_option maxRecDepth 100000

/-! ### F35: ceiling/ceilingref01.logical -/
inductive R35 where
  | r (x0 : Bool)
abbrev TF35 := Int → Option R35
def sgF35 : LSh := ⟨[(0, .one (.cell (.int .u8)))], []⟩
def FFF35 (Fx : TF35) (s : St) : Option R35 := Fx ((Eng.look s.env 0).toI)
def valF35 (o : R35) : AV := match o with | .r x0 => .bool x0
def memF35 (o : R35) : List Blk := match o with | .r x0 => []
def elF35 {R : Type} (o : R35) (k : AV → List Blk → Option R) : Option R := match o with | .r x0 => k (.bool x0) []
def RecOkF35 (Fx : TF35) : Prop := ∀ lk M o, FFF35 Fx (canS sgF35 lk M) = some o → FCalls CX 35 0 (argsE 1 (canS sgF35 lk M).env) (canS sgF35 lk M).mem (valF35 o) (memF35 o)
noncomputable def csF35 (N : Nat) (R : Type) : List (CE R) := []
theorem hcsF35 (N : Nat) (R : Type) : AllE (CeOk CX) (csF35 N R) := trivial
noncomputable def T35ur1 (N : Nat) (R : Type) : LTab R := mkTab ⟨17, 131071⟩ (csF35 N R) (noY) [] [] []
theorem okT35ur1 (N : Nat) (R : Type) : (T35ur1 N R).Ok CX code35 := mkTab_ok (hcsF35 N R) (noY_ok) (trivial) (trivial) (trivial)
def rsF35 : List ResultVar := [.tmp 2]
def F35 : Nat → TF35
  | 0 => fun _ => none
  | N + 1 => fun x0 =>
    match x0 == (13 : Int) with
    | true =>
      some (.r true)
    | false =>
      match x0 == (14 : Int) with
      | true =>
        some (.r true)
      | false =>
        match x0 == (15 : Int) with
        | true =>
          some (.r true)
        | false =>
          some (.r (x0 == (18 : Int)))
def xRF35 : XSh R35 := ⟨[], ⟨[(0, .one (.cell (.bool)))], []⟩, fun _ => [], fun s => .r ((Eng.look s.env 0).toB)⟩
theorem fsF35 : ∀ (N : Nat) (lk : Nat → AV) (M : List Blk), FFF35 (F35 (N + 1)) (canS sgF35 lk M) = evfn CX (T35ur1 N R35) code35 rsF35 (argsE 1 (canS sgF35 lk M).env) (canS sgF35 lk M).mem (goR CX 0 (fun _ => some xRF35)) := by intro N lk M; kernel_rfl
theorem soundF35 : ∀ N, RecOkF35 (F35 N)
  | 0, lk, M, o, h => by cases h
  | N + 1, lk, M, o, h => fn_sound hX (okT35ur1 N R35) Try.func35 hb35 rfl en35 (by kernel_rfl) (ys := fun _ => some xRF35) (fun st y h => by injection h with h; subst h; exact fun lk M => ⟨rfl, rfl⟩) ((fsF35 N lk M).symm.trans h)
def cvce35n0 : List Cv := []
def selce35n0 : St → List Nat := fun _ => []
noncomputable def ce35n0 (Fx : TF35) (R : Type) (test : List AV → List Blk → Bool) : CE R := ⟨35, test, fun args M => some (selce35n0 ⟨argEnv 0 args, M, [], .unk⟩), fun args M k => tst (Nat.beq args.length 1) (callFn CX 0 cvce35n0 sgF35 selce35n0 (FFF35 Fx) elF35 args M k)⟩
theorem okce35n0 (Fx : TF35) (h : RecOkF35 Fx) (R : Type) (test : List AV → List Blk → Bool) : CeOk CX (ce35n0 Fx R test) := ce_ok hX (fun o k => by cases o; rfl) h en35 (fun args M ids h => by injection h with h; exact ⟨rfl, h.symm⟩)
end Go.Proofs.Ytnfmdenclkdmbaa

namespace Go.Proofs.Ytnfmdenclkdmbaa
open Go Go.Eng
set_option maxRecDepth 100000

/-! ### F39: ceiling/ceilingref01.modulus -/
inductive R39 where
  | r (x0 : Int)
abbrev TF39 := Int → Int → Option R39
def sgF39 : LSh := ⟨[(0, .one (.cell (.int .i64))), (1, .one (.cell (.int .i64)))], []⟩
def FFF39 (Fx : TF39) (s : St) : Option R39 := Fx ((Eng.look s.env 0).toI) ((Eng.look s.env 1).toI)
def valF39 (o : R39) : AV := match o with | .r x0 => .int .i64 x0
def memF39 (o : R39) : List Blk := match o with | .r x0 => []
def elF39 {R : Type} (o : R39) (k : AV → List Blk → Option R) : Option R := match o with | .r x0 => k (.int .i64 x0) []
def RecOkF39 (Fx : TF39) : Prop := ∀ lk M o, FFF39 Fx (canS sgF39 lk M) = some o → FCalls CX 39 0 (argsE 2 (canS sgF39 lk M).env) (canS sgF39 lk M).mem (valF39 o) (memF39 o)
noncomputable def csF39 (N : Nat) (R : Type) : List (CE R) := []
theorem hcsF39 (N : Nat) (R : Type) : AllE (CeOk CX) (csF39 N R) := trivial
noncomputable def T39ur1 (N : Nat) (R : Type) : LTab R := mkTab ⟨22, 4194303⟩ (csF39 N R) (noY) [] [] []
theorem okT39ur1 (N : Nat) (R : Type) : (T39ur1 N R).Ok CX code39 := mkTab_ok (hcsF39 N R) (noY_ok) (trivial) (trivial) (trivial)
def rsF39 : List ResultVar := [.tmp 4]
def F39 : Nat → TF39
  | 0 => fun _ _ => none
  | N + 1 => fun x0 x1 =>
    tst (!(x1 == 0)) <|
    match (Int.tmod x0 x1) != (0 : Int) with
    | true =>
      match !((decide ((Int.tmod x0 x1) < (0 : Int))) == (decide (x1 < (0 : Int)))) with
      | true =>
        some (.r (IntKind.wrap .i64 ((Int.tmod x0 x1) + x1)))
      | false =>
        some (.r (Int.tmod x0 x1))
    | false =>
      some (.r (Int.tmod x0 x1))
def xRF39 : XSh R39 := ⟨[], ⟨[(0, .one (.cell (.int .i64)))], []⟩, fun _ => [], fun s => .r ((Eng.look s.env 0).toI)⟩
theorem fsF39 : ∀ (N : Nat) (lk : Nat → AV) (M : List Blk), FFF39 (F39 (N + 1)) (canS sgF39 lk M) = evfn CX (T39ur1 N R39) code39 rsF39 (argsE 2 (canS sgF39 lk M).env) (canS sgF39 lk M).mem (goR CX 0 (fun _ => some xRF39)) := by intro N lk M; kernel_rfl
theorem soundF39 : ∀ N, RecOkF39 (F39 N)
  | 0, lk, M, o, h => by cases h
  | N + 1, lk, M, o, h => fn_sound hX (okT39ur1 N R39) Try.func39 hb39 rfl en39 (by kernel_rfl) (ys := fun _ => some xRF39) (fun st y h => by injection h with h; subst h; exact fun lk M => ⟨rfl, rfl⟩) ((fsF39 N lk M).symm.trans h)
def cvce39n0 : List Cv := []
def selce39n0 : St → List Nat := fun _ => []
noncomputable def ce39n0 (Fx : TF39) (R : Type) (test : List AV → List Blk → Bool) : CE R := ⟨39, test, fun args M => some (selce39n0 ⟨argEnv 0 args, M, [], .unk⟩), fun args M k => tst (Nat.beq args.length 2) (callFn CX 0 cvce39n0 sgF39 selce39n0 (FFF39 Fx) elF39 args M k)⟩
theorem okce39n0 (Fx : TF39) (h : RecOkF39 Fx) (R : Type) (test : List AV → List Blk → Bool) : CeOk CX (ce39n0 Fx R test) := ce_ok hX (fun o k => by cases o; rfl) h en39 (fun args M ids h => by injection h with h; exact ⟨rfl, h.symm⟩)
end Go.Proofs.Ytnfmdenclkdmbaa

namespace Go.Proofs.Ytnfmdenclkdmbaa
open Go Go.Eng
set_option maxRecDepth 100000

/-! ### F40: ceiling/ceilingref01.truth -/
inductive R40 where
  | r (x0 : Int)
abbrev TF40 := Bool → Option R40
def sgF40 : LSh := ⟨[(0, .one (.cell (.bool)))], []⟩
def FFF40 (Fx : TF40) (s : St) : Option R40 := Fx ((Eng.look s.env 0).toB)
def valF40 (o : R40) : AV := match o with | .r x0 => .int .i64 x0
def memF40 (o : R40) : List Blk := match o with | .r x0 => []
def elF40 {R : Type} (o : R40) (k : AV → List Blk → Option R) : Option R := match o with | .r x0 => k (.int .i64 x0) []
def RecOkF40 (Fx : TF40) : Prop := ∀ lk M o, FFF40 Fx (canS sgF40 lk M) = some o → FCalls CX 40 0 (argsE 1 (canS sgF40 lk M).env) (canS sgF40 lk M).mem (valF40 o) (memF40 o)
noncomputable def csF40 (N : Nat) (R : Type) : List (CE R) := []
theorem hcsF40 (N : Nat) (R : Type) : AllE (CeOk CX) (csF40 N R) := trivial
noncomputable def T40ur1 (N : Nat) (R : Type) : LTab R := mkTab ⟨4, 15⟩ (csF40 N R) (noY) [] [] []
theorem okT40ur1 (N : Nat) (R : Type) : (T40ur1 N R).Ok CX code40 := mkTab_ok (hcsF40 N R) (noY_ok) (trivial) (trivial) (trivial)
def rsF40 : List ResultVar := [.tmp 2]
def F40 : Nat → TF40
  | 0 => fun _ => none
  | N + 1 => fun x0 =>
    match x0 with
    | true =>
      some (.r 1)
    | false =>
      some (.r 0)
def xRF40 : XSh R40 := ⟨[], ⟨[(0, .one (.cell (.int .i64)))], []⟩, fun _ => [], fun s => .r ((Eng.look s.env 0).toI)⟩
theorem fsF40 : ∀ (N : Nat) (lk : Nat → AV) (M : List Blk), FFF40 (F40 (N + 1)) (canS sgF40 lk M) = evfn CX (T40ur1 N R40) code40 rsF40 (argsE 1 (canS sgF40 lk M).env) (canS sgF40 lk M).mem (goR CX 0 (fun _ => some xRF40)) := by intro N lk M; kernel_rfl
theorem soundF40 : ∀ N, RecOkF40 (F40 N)
  | 0, lk, M, o, h => by cases h
  | N + 1, lk, M, o, h => fn_sound hX (okT40ur1 N R40) Try.func40 hb40 rfl en40 (by kernel_rfl) (ys := fun _ => some xRF40) (fun st y h => by injection h with h; subst h; exact fun lk M => ⟨rfl, rfl⟩) ((fsF40 N lk M).symm.trans h)
def cvce40n0 : List Cv := []
def selce40n0 : St → List Nat := fun _ => []
noncomputable def ce40n0 (Fx : TF40) (R : Type) (test : List AV → List Blk → Bool) : CE R := ⟨40, test, fun args M => some (selce40n0 ⟨argEnv 0 args, M, [], .unk⟩), fun args M k => tst (Nat.beq args.length 1) (callFn CX 0 cvce40n0 sgF40 selce40n0 (FFF40 Fx) elF40 args M k)⟩
theorem okce40n0 (Fx : TF40) (h : RecOkF40 Fx) (R : Type) (test : List AV → List Blk → Bool) : CeOk CX (ce40n0 Fx R test) := ce_ok hX (fun o k => by cases o; rfl) h en40 (fun args M ids h => by injection h with h; exact ⟨rfl, h.symm⟩)
end Go.Proofs.Ytnfmdenclkdmbaa

namespace Go.Proofs.Ytnfmdenclkdmbaa
open Go Go.Eng
set_option maxRecDepth 100000

/-! ### F18: ceiling/ceilingref01.Wrap -/
inductive R18 where
  | r (x0 : Int) (x1 : Bool)
abbrev TF18 := Int → Int → Int → Option R18
def sgF18 : LSh := ⟨[(0, .one (.cell (.int .u8))), (1, .one (.cell (.int .i64))), (2, .one (.cell (.int .i64)))], []⟩
def FFF18 (Fx : TF18) (s : St) : Option R18 := Fx ((Eng.look s.env 0).toI) ((Eng.look s.env 1).toI) ((Eng.look s.env 2).toI)
def valF18 (o : R18) : AV := match o with | .r x0 x1 => .tup [.int .i64 x0, .bool x1]
def memF18 (o : R18) : List Blk := match o with | .r x0 x1 => []
def elF18 {R : Type} (o : R18) (k : AV → List Blk → Option R) : Option R := match o with | .r x0 x1 => k (.tup [.int .i64 x0, .bool x1]) []
def RecOkF18 (Fx : TF18) : Prop := ∀ lk M o, FFF18 Fx (canS sgF18 lk M) = some o → FCalls CX 18 0 (argsE 3 (canS sgF18 lk M).env) (canS sgF18 lk M).mem (valF18 o) (memF18 o)
noncomputable def csF18 (N : Nat) (R : Type) : List (CE R) := [ce39n0 (F39 N) R (fun _ _ => true), ce40n0 (F40 N) R (fun _ _ => true)]
theorem hcsF18 (N : Nat) (R : Type) : AllE (CeOk CX) (csF18 N R) := ⟨okce39n0 (F39 N) (soundF39 N) R (fun _ _ => true), okce40n0 (F40 N) (soundF40 N) R (fun _ _ => true), trivial⟩
inductive OJ18a3454 where
  | nx (x24 : Bool)
def J18a3454 (N : Nat) : Int → Option OJ18a3454 := fun x8 =>
    match x8 == (4 : Int) with
    | true =>
      some (.nx true)
    | false =>
      match x8 == (5 : Int) with
      | true =>
        some (.nx true)
      | false =>
        some (.nx (x8 == (6 : Int)))
def LFJ18a3454 (N : Nat) (s : St) : Option OJ18a3454 := J18a3454 N ((Eng.look s.env 8).toI)
def sgJ18a3454 : LSh := ⟨[(8, .one (.cell (.int .u8)))], []⟩
def ceJ18a3454 : List Cv := []
def seJ18a3454 : St → List Nat := fun _ => []
def xJ18a3454wnx : XSh OJ18a3454 := ⟨[], ⟨[(24, .one (.cell (.bool)))], []⟩, fun _ => [], fun s => .nx ((Eng.look s.env 24).toB)⟩
def xsJ18a3454 : Ex → St → Option (XSh OJ18a3454) := fun e st => match e with
  | .normal => some xJ18a3454wnx
  | _ => none
def exJ18a3454 (o : OJ18a3454) : Ex := match o with | .nx x24 => .normal
def stJ18a3454 (o : OJ18a3454) : St := match o with | .nx x24 => ⟨[(24, .bool x24)], [], [], .unk⟩
def elJ18a3454 {R : Type} (o : OJ18a3454) (k : Ex → St → Option R) : Option R := match o with | .nx x24 => k .normal ⟨[(24, .bool x24)], [], [], .unk⟩
theorem heJ18a3454 {R : Type} (o : OJ18a3454) (k : Ex → St → Option R) : elJ18a3454 o k = k (exJ18a3454 o) (stJ18a3454 o) := by cases o <;> rfl
theorem hxJ18a3454 : ∀ e st x, xsJ18a3454 e st = some x → outOk x e exJ18a3454 stJ18a3454 := by
  intro e st x h
  unfold xsJ18a3454 at h
  repeat' split at h
  all_goals first
    | (injection h with h; subst h; exact fun lk M => ⟨rfl, rfl⟩)
    | cases h
noncomputable def T18uc3454 (N : Nat) (R : Type) : LTab R := mkTab ⟨119, 251658240⟩ (csF18 N R) (noY) [] [] []
theorem okT18uc3454 (N : Nat) (R : Type) : (T18uc3454 N R).Ok CX code18 := mkTab_ok (hcsF18 N R) (noY_ok) (trivial) (trivial) (trivial)
noncomputable def bdJ18a3454 : Code := (codeAt code18 [false, true, true, true, true, true, true, false, true, false, true]).getD .skip
theorem hsJ18a3454 (N : Nat) : ∀ (lk : Nat → AV) (M : List Blk), LFJ18a3454 N (canS sgJ18a3454 lk M) = evk CX (T18uc3454 N OJ18a3454) bdJ18a3454 3454 (canS sgJ18a3454 lk M) (kontX CX 0 xsJ18a3454) := by intro lk M; kernel_rfl
noncomputable def T18ur1 (N : Nat) (R : Type) : LTab R := mkTab ⟨119, 664613997892457936451903530140172287⟩ (csF18 N R) (noY) [] [] [(3454, fun st k => callLoop CX 0 251658240 ceJ18a3454 sgJ18a3454 seJ18a3454 ⟨119, 664613997892457936451903530140172287⟩ (LFJ18a3454 N) elJ18a3454 st k)]
theorem okT18ur1 (N : Nat) (R : Type) : (T18ur1 N R).Ok CX code18 := mkTab_ok (hcsF18 N R) (noY_ok) (trivial) (trivial) (⟨cut_ok hX (path := [false, true, true, true, true, true, true, false, true, false, true]) (by kernel_rfl) (by rfl) (okT18uc3454 N OJ18a3454) (hsJ18a3454 N) hxJ18a3454 rfl heJ18a3454, trivial⟩)
def rsF18 : List ResultVar := [.tmp 6, .tmp 7]
def F18 : Nat → TF18
  | 0 => fun _ _ _ => none
  | N + 1 => fun x0 x1 x2 =>
    match x0 == (1 : Int) with
    | true =>
      some (.r (IntKind.wrap .i64 (x1 + x2)) true)
    | false =>
      match x0 == (2 : Int) with
      | true =>
        some (.r (IntKind.wrap .i64 (x1 - x2)) true)
      | false =>
        match x0 == (3 : Int) with
        | true =>
          some (.r (IntKind.wrap .i64 (x1 * x2)) true)
        | false =>
          match J18a3454 N x0 with
          | none => none
          | some (.nx x24v1) =>
            match x24v1 with
            | true =>
              match x2 == (0 : Int) with
              | true =>
                some (.r 0 false)
              | false =>
                match x2 == (-1 : Int) with
                | true =>
                  match x0 == (4 : Int) with
                  | true =>
                    some (.r (IntKind.wrap .i64 (0 - x1)) true)
                  | false =>
                    match x2 == (-1 : Int) with
                    | true =>
                      some (.r 0 true)
                    | false =>
                      match x0 == (4 : Int) with
                      | true =>
                        tst (!(x2 == 0)) <|
                        some (.r (IntKind.wrap .i64 (Int.tdiv x1 x2)) true)
                      | false =>
                        match x0 == (5 : Int) with
                        | true =>
                          tst (!(x2 == 0)) <|
                          some (.r (Int.tmod x1 x2) true)
                        | false =>
                          match F39 N x1 x2 with
                          | none => none
                          | some (.r rx0v2) =>
                            some (.r rx0v2 true)
                | false =>
                  match x2 == (-1 : Int) with
                  | true =>
                    some (.r 0 true)
                  | false =>
                    match x0 == (4 : Int) with
                    | true =>
                      tst (!(x2 == 0)) <|
                      some (.r (IntKind.wrap .i64 (Int.tdiv x1 x2)) true)
                    | false =>
                      match x0 == (5 : Int) with
                      | true =>
                        tst (!(x2 == 0)) <|
                        some (.r (Int.tmod x1 x2) true)
                      | false =>
                        match F39 N x1 x2 with
                        | none => none
                        | some (.r rx0v3) =>
                          some (.r rx0v3 true)
            | false =>
              match x0 == (7 : Int) with
              | true =>
                match F40 N (x1 == x2) with
                | none => none
                | some (.r rx0v4) =>
                  some (.r rx0v4 true)
              | false =>
                match x0 == (8 : Int) with
                | true =>
                  match F40 N (x1 != x2) with
                  | none => none
                  | some (.r rx0v5) =>
                    some (.r rx0v5 true)
                | false =>
                  match x0 == (9 : Int) with
                  | true =>
                    match F40 N (decide (x1 < x2)) with
                    | none => none
                    | some (.r rx0v6) =>
                      some (.r rx0v6 true)
                  | false =>
                    match x0 == (10 : Int) with
                    | true =>
                      match F40 N (decide (x1 ≤ x2)) with
                      | none => none
                      | some (.r rx0v7) =>
                        some (.r rx0v7 true)
                    | false =>
                      match x0 == (11 : Int) with
                      | true =>
                        match F40 N (decide (x2 < x1)) with
                        | none => none
                        | some (.r rx0v8) =>
                          some (.r rx0v8 true)
                      | false =>
                        match x0 == (12 : Int) with
                        | true =>
                          match F40 N (decide (x2 ≤ x1)) with
                          | none => none
                          | some (.r rx0v9) =>
                            some (.r rx0v9 true)
                        | false =>
                          match x0 == (13 : Int) with
                          | true =>
                            some (.r (IntKind.wrap .i64 ((BitVec.ofInt 64 x1 &&& BitVec.ofInt 64 x2).toNat : Int)) true)
                          | false =>
                            match x0 == (14 : Int) with
                            | true =>
                              some (.r (IntKind.wrap .i64 ((BitVec.ofInt 64 x1 ||| BitVec.ofInt 64 x2).toNat : Int)) true)
                            | false =>
                              match x0 == (15 : Int) with
                              | true =>
                                some (.r (IntKind.wrap .i64 ((BitVec.ofInt 64 x1 ^^^ BitVec.ofInt 64 x2).toNat : Int)) true)
                              | false =>
                                match x0 == (16 : Int) with
                                | true =>
                                  some (.r (IntKind.wrap .i64 (0 - x1)) true)
                                | false =>
                                  match x0 == (17 : Int) with
                                  | true =>
                                    match decide (x1 < (0 : Int)) with
                                    | true =>
                                      some (.r (IntKind.wrap .i64 (0 - x1)) true)
                                    | false =>
                                      some (.r x1 true)
                                  | false =>
                                    match x0 == (18 : Int) with
                                    | true =>
                                      some (.r (IntKind.wrap .i64 ((1 : Int) - x1)) true)
                                    | false =>
                                      some (.r 0 false)
def xRF18 : XSh R18 := ⟨[], ⟨[(0, .one (.cell (.int .i64))), (1, .one (.cell (.bool)))], []⟩, fun _ => [], fun s => .r ((Eng.look s.env 0).toI) ((Eng.look s.env 1).toB)⟩
theorem fsF18 : ∀ (N : Nat) (lk : Nat → AV) (M : List Blk), FFF18 (F18 (N + 1)) (canS sgF18 lk M) = evfn CX (T18ur1 N R18) code18 rsF18 (argsE 3 (canS sgF18 lk M).env) (canS sgF18 lk M).mem (goRt CX 0 2 (fun _ => some xRF18)) := by intro N lk M; kernel_rfl
theorem soundF18 : ∀ N, RecOkF18 (F18 N)
  | 0, lk, M, o, h => by cases h
  | N + 1, lk, M, o, h => fn_soundt hX (okT18ur1 N R18) Try.func18 hb18 rfl en18 (by kernel_rfl) (ys := fun _ => some xRF18) (fun st y h => by injection h with h; subst h; exact fun lk M => ⟨rfl, rfl⟩) ((fsF18 N lk M).symm.trans h)
def cvce18n0 : List Cv := []
def selce18n0 : St → List Nat := fun _ => []
noncomputable def ce18n0 (Fx : TF18) (R : Type) (test : List AV → List Blk → Bool) : CE R := ⟨18, test, fun args M => some (selce18n0 ⟨argEnv 0 args, M, [], .unk⟩), fun args M k => tst (Nat.beq args.length 3) (callFn CX 0 cvce18n0 sgF18 selce18n0 (FFF18 Fx) elF18 args M k)⟩
theorem okce18n0 (Fx : TF18) (h : RecOkF18 Fx) (R : Type) (test : List AV → List Blk → Bool) : CeOk CX (ce18n0 Fx R test) := ce_ok hX (fun o k => by cases o; rfl) h en18 (fun args M ids h => by injection h with h; exact ⟨rfl, h.symm⟩)
end Go.Proofs.Ytnfmdenclkdmbaa

namespace Go.Proofs.Ytnfmdenclkdmbaa
open Go Go.Eng
set_option maxRecDepth 100000

/-! ### F13: ceiling/ceilingref01.Apply -/
inductive R13 where
  | r (x0 : Int) (x1 : Bool)
abbrev TF13 := Int → Int → Int → Option R13
def sgF13 : LSh := ⟨[(0, .one (.cell (.int .u8))), (1, .one (.cell (.int .i64))), (2, .one (.cell (.int .i64)))], []⟩
def FFF13 (Fx : TF13) (s : St) : Option R13 := Fx ((Eng.look s.env 0).toI) ((Eng.look s.env 1).toI) ((Eng.look s.env 2).toI)
def valF13 (o : R13) : AV := match o with | .r x0 x1 => .tup [.int .i64 x0, .bool x1]
def memF13 (o : R13) : List Blk := match o with | .r x0 x1 => []
def elF13 {R : Type} (o : R13) (k : AV → List Blk → Option R) : Option R := match o with | .r x0 x1 => k (.tup [.int .i64 x0, .bool x1]) []
def RecOkF13 (Fx : TF13) : Prop := ∀ lk M o, FFF13 Fx (canS sgF13 lk M) = some o → FCalls CX 13 0 (argsE 3 (canS sgF13 lk M).env) (canS sgF13 lk M).mem (valF13 o) (memF13 o)
noncomputable def csF13 (N : Nat) (R : Type) : List (CE R) := [ce15n0 (F15 N) R (fun _ _ => true), ce18n0 (F18 N) R (fun _ _ => true), ce34n0 (F34 N) R (fun _ _ => true), ce35n0 (F35 N) R (fun _ _ => true)]
theorem hcsF13 (N : Nat) (R : Type) : AllE (CeOk CX) (csF13 N R) := ⟨okce15n0 (F15 N) (soundF15 N) R (fun _ _ => true), okce18n0 (F18 N) (soundF18 N) R (fun _ _ => true), okce34n0 (F34 N) (soundF34 N) R (fun _ _ => true), okce35n0 (F35 N) (soundF35 N) R (fun _ _ => true), trivial⟩
inductive OJ13a6 where
  | nx (x2 : Int)
def J13a6 (N : Nat) : Int → Int → Option OJ13a6 := fun x0 x2 =>
    match F34 N x0 with
    | none => none
    | some (.r rx0v1) =>
      match rx0v1 with
      | true =>
        some (.nx 0)
      | false =>
        some (.nx x2)
def LFJ13a6 (N : Nat) (s : St) : Option OJ13a6 := J13a6 N ((Eng.look s.env 0).toI) ((Eng.look s.env 2).toI)
def sgJ13a6 : LSh := ⟨[(0, .one (.cell (.int .u8))), (2, .one (.cell (.int .i64)))], []⟩
def ceJ13a6 : List Cv := []
def seJ13a6 : St → List Nat := fun _ => []
def xJ13a6wnx : XSh OJ13a6 := ⟨[], ⟨[(2, .one (.cell (.int .i64)))], []⟩, fun _ => [], fun s => .nx ((Eng.look s.env 2).toI)⟩
def xsJ13a6 : Ex → St → Option (XSh OJ13a6) := fun e st => match e with
  | .normal => some xJ13a6wnx
  | _ => none
def exJ13a6 (o : OJ13a6) : Ex := match o with | .nx x2 => .normal
def stJ13a6 (o : OJ13a6) : St := match o with | .nx x2 => ⟨[(2, .int .i64 x2)], [], [], .unk⟩
def elJ13a6 {R : Type} (o : OJ13a6) (k : Ex → St → Option R) : Option R := match o with | .nx x2 => k .normal ⟨[(2, .int .i64 x2)], [], [], .unk⟩
theorem heJ13a6 {R : Type} (o : OJ13a6) (k : Ex → St → Option R) : elJ13a6 o k = k (exJ13a6 o) (stJ13a6 o) := by cases o <;> rfl
theorem hxJ13a6 : ∀ e st x, xsJ13a6 e st = some x → outOk x e exJ13a6 stJ13a6 := by
  intro e st x h
  unfold xsJ13a6 at h
  repeat' split at h
  all_goals first
    | (injection h with h; subst h; exact fun lk M => ⟨rfl, rfl⟩)
    | cases h
noncomputable def T13uc6 (N : Nat) (R : Type) : LTab R := mkTab ⟨55, 3076⟩ (csF13 N R) (noY) [] [] []
theorem okT13uc6 (N : Nat) (R : Type) : (T13uc6 N R).Ok CX code13 := mkTab_ok (hcsF13 N R) (noY_ok) (trivial) (trivial) (trivial)
noncomputable def bdJ13a6 : Code := (codeAt code13 [false, true]).getD .skip
theorem hsJ13a6 (N : Nat) : ∀ (lk : Nat → AV) (M : List Blk), LFJ13a6 N (canS sgJ13a6 lk M) = evk CX (T13uc6 N OJ13a6) bdJ13a6 6 (canS sgJ13a6 lk M) (kontX CX 0 xsJ13a6) := by intro lk M; kernel_rfl
inductive OJ13a14 where
  | nx
  | ret (x6 : Int) (x7 : Bool)
def J13a14 (N : Nat) : Int → Int → Int → Option OJ13a14 := fun x0 x1 x2 =>
    match F15 N x1 with
    | none => none
    | some (.r rx0v3) =>
      match !rx0v3 with
      | true =>
        some (.ret 0 false)
      | false =>
        match F15 N x2 with
        | none => none
        | some (.r rx0v4) =>
          match !rx0v4 with
          | true =>
            some (.ret 0 false)
          | false =>
            match F35 N x0 with
            | none => none
            | some (.r rx0v5) =>
              match rx0v5 with
              | true =>
                match decide (x1 < (0 : Int)) with
                | true =>
                  some (.ret 0 false)
                | false =>
                  match decide ((1 : Int) < x1) with
                  | true =>
                    some (.ret 0 false)
                  | false =>
                    match decide (x2 < (0 : Int)) with
                    | true =>
                      some (.ret 0 false)
                    | false =>
                      match decide ((1 : Int) < x2) with
                      | true =>
                        some (.ret 0 false)
                      | false =>
                        some .nx
              | false =>
                some .nx
def LFJ13a14 (N : Nat) (s : St) : Option OJ13a14 := J13a14 N ((Eng.look s.env 0).toI) ((Eng.look s.env 1).toI) ((Eng.look s.env 2).toI)
def sgJ13a14 : LSh := ⟨[(0, .one (.cell (.int .u8))), (1, .one (.cell (.int .i64))), (2, .one (.cell (.int .i64)))], []⟩
def ceJ13a14 : List Cv := []
def seJ13a14 : St → List Nat := fun _ => []
def xJ13a14wnx : XSh OJ13a14 := ⟨[], ⟨[], []⟩, fun _ => [], fun s => .nx ⟩
def xJ13a14wret : XSh OJ13a14 := ⟨[], ⟨[(6, .one (.cell (.int .i64))), (7, .one (.cell (.bool)))], []⟩, fun _ => [], fun s => .ret ((Eng.look s.env 6).toI) ((Eng.look s.env 7).toB)⟩
def xsJ13a14 : Ex → St → Option (XSh OJ13a14) := fun e st => match e with
  | .normal => some xJ13a14wnx
  | .ret => some xJ13a14wret
  | _ => none
def exJ13a14 (o : OJ13a14) : Ex := match o with | .nx => .normal | .ret x6 x7 => .ret
def stJ13a14 (o : OJ13a14) : St := match o with | .nx => ⟨[], [], [], .unk⟩ | .ret x6 x7 => ⟨[(6, .int .i64 x6), (7, .bool x7)], [], [], .unk⟩
def elJ13a14 {R : Type} (o : OJ13a14) (k : Ex → St → Option R) : Option R := match o with | .nx => k .normal ⟨[], [], [], .unk⟩ | .ret x6 x7 => k .ret ⟨[(6, .int .i64 x6), (7, .bool x7)], [], [], .unk⟩
theorem heJ13a14 {R : Type} (o : OJ13a14) (k : Ex → St → Option R) : elJ13a14 o k = k (exJ13a14 o) (stJ13a14 o) := by cases o <;> rfl
theorem hxJ13a14 : ∀ e st x, xsJ13a14 e st = some x → outOk x e exJ13a14 stJ13a14 := by
  intro e st x h
  unfold xsJ13a14 at h
  repeat' split at h
  all_goals first
    | (injection h with h; subst h; exact fun lk M => ⟨rfl, rfl⟩)
    | cases h
noncomputable def T13uc14 (N : Nat) (R : Type) : LTab R := mkTab ⟨55, 1099511623872⟩ (csF13 N R) (noY) [] [] []
theorem okT13uc14 (N : Nat) (R : Type) : (T13uc14 N R).Ok CX code13 := mkTab_ok (hcsF13 N R) (noY_ok) (trivial) (trivial) (trivial)
noncomputable def bdJ13a14 : Code := (codeAt code13 [false, true, true]).getD .skip
theorem hsJ13a14 (N : Nat) : ∀ (lk : Nat → AV) (M : List Blk), LFJ13a14 N (canS sgJ13a14 lk M) = evk CX (T13uc14 N OJ13a14) bdJ13a14 14 (canS sgJ13a14 lk M) (kontX CX 0 xsJ13a14) := by intro lk M; kernel_rfl
noncomputable def T13ur1 (N : Nat) (R : Type) : LTab R := mkTab ⟨55, 36028797018963967⟩ (csF13 N R) (noY) [] [] [(6, fun st k => callLoop CX 0 3076 ceJ13a6 sgJ13a6 seJ13a6 ⟨55, 36028797018963967⟩ (LFJ13a6 N) elJ13a6 st k), (14, fun st k => callLoop CX 0 1099511623872 ceJ13a14 sgJ13a14 seJ13a14 ⟨55, 36028797018963967⟩ (LFJ13a14 N) elJ13a14 st k)]
theorem okT13ur1 (N : Nat) (R : Type) : (T13ur1 N R).Ok CX code13 := mkTab_ok (hcsF13 N R) (noY_ok) (trivial) (trivial) (⟨cut_ok hX (path := [false, true]) (by kernel_rfl) (by rfl) (okT13uc6 N OJ13a6) (hsJ13a6 N) hxJ13a6 rfl heJ13a6, cut_ok hX (path := [false, true, true]) (by kernel_rfl) (by rfl) (okT13uc14 N OJ13a14) (hsJ13a14 N) hxJ13a14 rfl heJ13a14, trivial⟩)
def rsF13 : List ResultVar := [.tmp 6, .tmp 7]
def F13 : Nat → TF13
  | 0 => fun _ _ _ => none
  | N + 1 => fun x0 x1 x2 =>
    match J13a6 N x0 x2 with
    | none => none
    | some (.nx x2v2) =>
      match J13a14 N x0 x1 x2v2 with
      | none => none
      | some (.nx) =>
        match F18 N x0 x1 x2v2 with
        | none => none
        | some (.r rx0v7 rx1v7) =>
          match !rx1v7 with
          | true =>
            some (.r 0 false)
          | false =>
            match F15 N rx0v7 with
            | none => none
            | some (.r rx0v8) =>
              match !rx0v8 with
              | true =>
                some (.r 0 false)
              | false =>
                some (.r rx0v7 true)
      | some (.ret x6v9 x7v9) =>
        some (.r x6v9 x7v9)
def xRF13 : XSh R13 := ⟨[], ⟨[(0, .one (.cell (.int .i64))), (1, .one (.cell (.bool)))], []⟩, fun _ => [], fun s => .r ((Eng.look s.env 0).toI) ((Eng.look s.env 1).toB)⟩
theorem fsF13 : ∀ (N : Nat) (lk : Nat → AV) (M : List Blk), FFF13 (F13 (N + 1)) (canS sgF13 lk M) = evfn CX (T13ur1 N R13) code13 rsF13 (argsE 3 (canS sgF13 lk M).env) (canS sgF13 lk M).mem (goRt CX 0 2 (fun _ => some xRF13)) := by intro N lk M; kernel_rfl
theorem soundF13 : ∀ N, RecOkF13 (F13 N)
  | 0, lk, M, o, h => by cases h
  | N + 1, lk, M, o, h => fn_soundt hX (okT13ur1 N R13) Try.func13 hb13 rfl en13 (by kernel_rfl) (ys := fun _ => some xRF13) (fun st y h => by injection h with h; subst h; exact fun lk M => ⟨rfl, rfl⟩) ((fsF13 N lk M).symm.trans h)
def cvce13n0 : List Cv := []
def selce13n0 : St → List Nat := fun _ => []
noncomputable def ce13n0 (Fx : TF13) (R : Type) (test : List AV → List Blk → Bool) : CE R := ⟨13, test, fun args M => some (selce13n0 ⟨argEnv 0 args, M, [], .unk⟩), fun args M k => tst (Nat.beq args.length 3) (callFn CX 0 cvce13n0 sgF13 selce13n0 (FFF13 Fx) elF13 args M k)⟩
theorem okce13n0 (Fx : TF13) (h : RecOkF13 Fx) (R : Type) (test : List AV → List Blk → Bool) : CeOk CX (ce13n0 Fx R test) := ce_ok hX (fun o k => by cases o; rfl) h en13 (fun args M ids h => by injection h with h; exact ⟨rfl, h.symm⟩)
end Go.Proofs.Ytnfmdenclkdmbaa

namespace Go.Proofs.Ytnfmdenclkdmbaa
open Go Go.Eng
set_option maxRecDepth 100000

/-! ### F36: ceiling/ceilinglaw01.is -/
inductive R36 where
  | r (x0 : Bool)
abbrev TF36 := Int → Int → Int → Int → Option R36
def sgF36 : LSh := ⟨[(0, .one (.cell (.int .u8))), (1, .one (.cell (.int .i64))), (2, .one (.cell (.int .i64))), (3, .one (.cell (.int .i64)))], []⟩
def FFF36 (Fx : TF36) (s : St) : Option R36 := Fx ((Eng.look s.env 0).toI) ((Eng.look s.env 1).toI) ((Eng.look s.env 2).toI) ((Eng.look s.env 3).toI)
def valF36 (o : R36) : AV := match o with | .r x0 => .bool x0
def memF36 (o : R36) : List Blk := match o with | .r x0 => []
def elF36 {R : Type} (o : R36) (k : AV → List Blk → Option R) : Option R := match o with | .r x0 => k (.bool x0) []
def RecOkF36 (Fx : TF36) : Prop := ∀ lk M o, FFF36 Fx (canS sgF36 lk M) = some o → FCalls CX 36 0 (argsE 4 (canS sgF36 lk M).env) (canS sgF36 lk M).mem (valF36 o) (memF36 o)
noncomputable def csF36 (N : Nat) (R : Type) : List (CE R) := [ce12n0 (F12 N) R (fun _ _ => true)]
theorem hcsF36 (N : Nat) (R : Type) : AllE (CeOk CX) (csF36 N R) := ⟨okce12n0 (F12 N) (soundF12 N) R (fun _ _ => true), trivial⟩
noncomputable def T36ur1 (N : Nat) (R : Type) : LTab R := mkTab ⟨24, 16777215⟩ (csF36 N R) (noY) [] [] []
theorem okT36ur1 (N : Nat) (R : Type) : (T36ur1 N R).Ok CX code36 := mkTab_ok (hcsF36 N R) (noY_ok) (trivial) (trivial) (trivial)
def rsF36 : List ResultVar := [.tmp 8]
def F36 : Nat → TF36
  | 0 => fun _ _ _ _ => none
  | N + 1 => fun x0 x1 x2 x3 =>
    match F12 N x0 x1 x2 with
    | none => none
    | some (.r rx0v1 rx1v1) =>
      match rx0v1 == x3 with
      | true =>
        some (.r rx1v1)
      | false =>
        some (.r false)
def xRF36 : XSh R36 := ⟨[], ⟨[(0, .one (.cell (.bool)))], []⟩, fun _ => [], fun s => .r ((Eng.look s.env 0).toB)⟩
theorem fsF36 : ∀ (N : Nat) (lk : Nat → AV) (M : List Blk), FFF36 (F36 (N + 1)) (canS sgF36 lk M) = evfn CX (T36ur1 N R36) code36 rsF36 (argsE 4 (canS sgF36 lk M).env) (canS sgF36 lk M).mem (goR CX 0 (fun _ => some xRF36)) := by intro N lk M; kernel_rfl
theorem soundF36 : ∀ N, RecOkF36 (F36 N)
  | 0, lk, M, o, h => by cases h
  | N + 1, lk, M, o, h => fn_sound hX (okT36ur1 N R36) Try.func36 hb36 rfl en36 (by kernel_rfl) (ys := fun _ => some xRF36) (fun st y h => by injection h with h; subst h; exact fun lk M => ⟨rfl, rfl⟩) ((fsF36 N lk M).symm.trans h)
def cvce36n0 : List Cv := []
def selce36n0 : St → List Nat := fun _ => []
noncomputable def ce36n0 (Fx : TF36) (R : Type) (test : List AV → List Blk → Bool) : CE R := ⟨36, test, fun args M => some (selce36n0 ⟨argEnv 0 args, M, [], .unk⟩), fun args M k => tst (Nat.beq args.length 4) (callFn CX 0 cvce36n0 sgF36 selce36n0 (FFF36 Fx) elF36 args M k)⟩
theorem okce36n0 (Fx : TF36) (h : RecOkF36 Fx) (R : Type) (test : List AV → List Blk → Bool) : CeOk CX (ce36n0 Fx R test) := ce_ok hX (fun o k => by cases o; rfl) h en36 (fun args M ids h => by injection h with h; exact ⟨rfl, h.symm⟩)
end Go.Proofs.Ytnfmdenclkdmbaa

namespace Go.Proofs.Ytnfmdenclkdmbaa
open Go Go.Eng
set_option maxRecDepth 100000

/-! ### F37: ceiling/ceilinglaw01.none -/
inductive R37 where
  | r (x0 : Bool)
abbrev TF37 := Int → Int → Int → Option R37
def sgF37 : LSh := ⟨[(0, .one (.cell (.int .u8))), (1, .one (.cell (.int .i64))), (2, .one (.cell (.int .i64)))], []⟩
def FFF37 (Fx : TF37) (s : St) : Option R37 := Fx ((Eng.look s.env 0).toI) ((Eng.look s.env 1).toI) ((Eng.look s.env 2).toI)
def valF37 (o : R37) : AV := match o with | .r x0 => .bool x0
def memF37 (o : R37) : List Blk := match o with | .r x0 => []
def elF37 {R : Type} (o : R37) (k : AV → List Blk → Option R) : Option R := match o with | .r x0 => k (.bool x0) []
def RecOkF37 (Fx : TF37) : Prop := ∀ lk M o, FFF37 Fx (canS sgF37 lk M) = some o → FCalls CX 37 0 (argsE 3 (canS sgF37 lk M).env) (canS sgF37 lk M).mem (valF37 o) (memF37 o)
noncomputable def csF37 (N : Nat) (R : Type) : List (CE R) := [ce12n0 (F12 N) R (fun _ _ => true)]
theorem hcsF37 (N : Nat) (R : Type) : AllE (CeOk CX) (csF37 N R) := ⟨okce12n0 (F12 N) (soundF12 N) R (fun _ _ => true), trivial⟩
noncomputable def T37ur1 (N : Nat) (R : Type) : LTab R := mkTab ⟨22, 4194303⟩ (csF37 N R) (noY) [] [] []
theorem okT37ur1 (N : Nat) (R : Type) : (T37ur1 N R).Ok CX code37 := mkTab_ok (hcsF37 N R) (noY_ok) (trivial) (trivial) (trivial)
def rsF37 : List ResultVar := [.tmp 6]
def F37 : Nat → TF37
  | 0 => fun _ _ _ => none
  | N + 1 => fun x0 x1 x2 =>
    match F12 N x0 x1 x2 with
    | none => none
    | some (.r rx0v1 rx1v1) =>
      match rx0v1 == (0 : Int) with
      | true =>
        some (.r (!rx1v1))
      | false =>
        some (.r false)
def xRF37 : XSh R37 := ⟨[], ⟨[(0, .one (.cell (.bool)))], []⟩, fun _ => [], fun s => .r ((Eng.look s.env 0).toB)⟩
theorem fsF37 : ∀ (N : Nat) (lk : Nat → AV) (M : List Blk), FFF37 (F37 (N + 1)) (canS sgF37 lk M) = evfn CX (T37ur1 N R37) code37 rsF37 (argsE 3 (canS sgF37 lk M).env) (canS sgF37 lk M).mem (goR CX 0 (fun _ => some xRF37)) := by intro N lk M; kernel_rfl
theorem soundF37 : ∀ N, RecOkF37 (F37 N)
  | 0, lk, M, o, h => by cases h
  | N + 1, lk, M, o, h => fn_sound hX (okT37ur1 N R37) Try.func37 hb37 rfl en37 (by kernel_rfl) (ys := fun _ => some xRF37) (fun st y h => by injection h with h; subst h; exact fun lk M => ⟨rfl, rfl⟩) ((fsF37 N lk M).symm.trans h)
def cvce37n0 : List Cv := []
def selce37n0 : St → List Nat := fun _ => []
noncomputable def ce37n0 (Fx : TF37) (R : Type) (test : List AV → List Blk → Bool) : CE R := ⟨37, test, fun args M => some (selce37n0 ⟨argEnv 0 args, M, [], .unk⟩), fun args M k => tst (Nat.beq args.length 3) (callFn CX 0 cvce37n0 sgF37 selce37n0 (FFF37 Fx) elF37 args M k)⟩
theorem okce37n0 (Fx : TF37) (h : RecOkF37 Fx) (R : Type) (test : List AV → List Blk → Bool) : CeOk CX (ce37n0 Fx R test) := ce_ok hX (fun o k => by cases o; rfl) h en37 (fun args M ids h => by injection h with h; exact ⟨rfl, h.symm⟩)
end Go.Proofs.Ytnfmdenclkdmbaa

namespace Go.Proofs.Ytnfmdenclkdmbaa
open Go Go.Eng
set_option maxRecDepth 100000

/-! ### F22: ceiling/ceilinglaw01.ival -/
inductive R22 where
  | r (x0c0 : Int) (x0c1 : Int)
abbrev TF22 := Int → Int → Option R22
def sgF22 : LSh := ⟨[(0, .one (.cell (.int .i64))), (1, .one (.cell (.int .i64)))], []⟩
def FFF22 (Fx : TF22) (s : St) : Option R22 := Fx ((Eng.look s.env 0).toI) ((Eng.look s.env 1).toI)
def valF22 (o : R22) : AV := match o with | .r x0c0 x0c1 => .agg [.int .i64 x0c0, .int .i64 x0c1]
def memF22 (o : R22) : List Blk := match o with | .r x0c0 x0c1 => []
def elF22 {R : Type} (o : R22) (k : AV → List Blk → Option R) : Option R := match o with | .r x0c0 x0c1 => k (.agg [.int .i64 x0c0, .int .i64 x0c1]) []
def RecOkF22 (Fx : TF22) : Prop := ∀ lk M o, FFF22 Fx (canS sgF22 lk M) = some o → FCalls CX 22 0 (argsE 2 (canS sgF22 lk M).env) (canS sgF22 lk M).mem (valF22 o) (memF22 o)
noncomputable def csF22 (N : Nat) (R : Type) : List (CE R) := []
theorem hcsF22 (N : Nat) (R : Type) : AllE (CeOk CX) (csF22 N R) := trivial
noncomputable def T22ur1 (N : Nat) (R : Type) : LTab R := mkTab ⟨8, 255⟩ (csF22 N R) (noY) [] [] []
theorem okT22ur1 (N : Nat) (R : Type) : (T22ur1 N R).Ok CX code22 := mkTab_ok (hcsF22 N R) (noY_ok) (trivial) (trivial) (trivial)
def rsF22 : List ResultVar := [.cell 4 29]
def F22 : Nat → TF22
  | 0 => fun _ _ => none
  | N + 1 => fun x0 x1 =>
    some (.r x0 x1)
def xRF22 : XSh R22 := ⟨[], ⟨[(0, .agg [.cell (.int .i64), .cell (.int .i64)])], []⟩, fun _ => [], fun s => .r (((Eng.look s.env 0).cells.getD 0 .top).toI) (((Eng.look s.env 0).cells.getD 1 .top).toI)⟩
theorem fsF22 : ∀ (N : Nat) (lk : Nat → AV) (M : List Blk), FFF22 (F22 (N + 1)) (canS sgF22 lk M) = evfn CX (T22ur1 N R22) code22 rsF22 (argsE 2 (canS sgF22 lk M).env) (canS sgF22 lk M).mem (goR CX 0 (fun _ => some xRF22)) := by intro N lk M; kernel_rfl
theorem soundF22 : ∀ N, RecOkF22 (F22 N)
  | 0, lk, M, o, h => by cases h
  | N + 1, lk, M, o, h => fn_sound hX (okT22ur1 N R22) Try.func22 hb22 rfl en22 (by kernel_rfl) (ys := fun _ => some xRF22) (fun st y h => by injection h with h; subst h; exact fun lk M => ⟨rfl, rfl⟩) ((fsF22 N lk M).symm.trans h)
def cvce22n0 : List Cv := []
def selce22n0 : St → List Nat := fun _ => []
noncomputable def ce22n0 (Fx : TF22) (R : Type) (test : List AV → List Blk → Bool) : CE R := ⟨22, test, fun args M => some (selce22n0 ⟨argEnv 0 args, M, [], .unk⟩), fun args M k => tst (Nat.beq args.length 2) (callFn CX 0 cvce22n0 sgF22 selce22n0 (FFF22 Fx) elF22 args M k)⟩
theorem okce22n0 (Fx : TF22) (h : RecOkF22 Fx) (R : Type) (test : List AV → List Blk → Bool) : CeOk CX (ce22n0 Fx R test) := ce_ok hX (fun o k => by cases o; rfl) h en22 (fun args M ids h => by injection h with h; exact ⟨rfl, h.symm⟩)
end Go.Proofs.Ytnfmdenclkdmbaa
