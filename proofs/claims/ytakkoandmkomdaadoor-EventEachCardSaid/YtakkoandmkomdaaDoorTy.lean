/-
The tables of the program: its types, by number, and that its functions are entered. PRINTED BY jw.py.
Conditions: none.
-/
import Derived.Test.YtakkoandmkomdaaDoorJs
import Derived.Test.YtakkoandmkomdaaDoorJd
import Derived.Test.YtakkoandmkomdaaDoorJe
import Derived.Test.YtakkoandmkomdaaDoorProg
import Derived.KernelRfl
namespace Go.Proofs.YtakkoandmkomdaaDoor
open Go.RowKit

theorem tsh3 : tshape Tryd.prog 3 = some (false, 1) := by kernel_rfl
theorem tze3 : tzero Tryd.prog 3 = some [(Value.int IntKind.i64 0)] := by kernel_rfl
theorem tby3 : Tryd.prog.bytesOf 3 = 8 := by kernel_rfl
theorem tsh4 : tshape Tryd.prog 4 = some (false, 1) := by kernel_rfl
theorem tze4 : tzero Tryd.prog 4 = some [(Value.bool false)] := by kernel_rfl
theorem tby4 : Tryd.prog.bytesOf 4 = 1 := by kernel_rfl
theorem tsh5 : tshape Tryd.prog 5 = some (false, 1) := by kernel_rfl
theorem tze5 : tzero Tryd.prog 5 = some [(Value.int IntKind.u8 0)] := by kernel_rfl
theorem tby5 : Tryd.prog.bytesOf 5 = 1 := by kernel_rfl
theorem tsh22 : tshape Tryd.prog 22 = some (false, 1) := by kernel_rfl
theorem tze22 : tzero Tryd.prog 22 = some [(Value.slice none 0 0)] := by kernel_rfl
theorem tsl22 : tslice Tryd.prog 22 = some (36, 11) := by kernel_rfl
theorem tby22 : Tryd.prog.bytesOf 22 = 24 := by kernel_rfl
theorem tsh24 : tshape Tryd.prog 24 = some (true, 5) := by kernel_rfl
theorem tze24 : tzero Tryd.prog 24 = some [(Value.slice none 0 0), (Value.int IntKind.i64 0), (Value.int IntKind.i64 0), (Value.int IntKind.i64 0), (Value.bool false)] := by kernel_rfl
theorem tby24 : Tryd.prog.bytesOf 24 = 56 := by kernel_rfl
theorem tsh26 : tshape Tryd.prog 26 = some (true, 3) := by kernel_rfl
theorem tze26 : tzero Tryd.prog 26 = some [(Value.int IntKind.u8 0), (Value.int IntKind.i64 0), (Value.int IntKind.i64 0)] := by kernel_rfl
theorem tby26 : Tryd.prog.bytesOf 26 = 24 := by kernel_rfl
theorem tsh27 : tshape Tryd.prog 27 = some (false, 1) := by kernel_rfl
theorem tze27 : tzero Tryd.prog 27 = some [(Value.slice none 0 0)] := by kernel_rfl
theorem tsl27 : tslice Tryd.prog 27 = some (26, 3) := by kernel_rfl
theorem tby27 : Tryd.prog.bytesOf 27 = 24 := by kernel_rfl
theorem tsh36 : tshape Tryd.prog 36 = some (true, 11) := by kernel_rfl
theorem tze36 : tzero Tryd.prog 36 = some [(Value.int IntKind.i64 0), (Value.int IntKind.i64 0), (Value.int IntKind.i64 0), (Value.int IntKind.i64 0), (Value.bool false), (Value.bool false), (Value.bool false), (Value.bool false), (Value.int IntKind.u8 0), (Value.int IntKind.i64 0), (Value.int IntKind.i64 0)] := by kernel_rfl
theorem tby36 : Tryd.prog.bytesOf 36 = 56 := by kernel_rfl
theorem tsh45 : tshape Tryd.prog 45 = some (false, 1) := by kernel_rfl
theorem tze45 : tzero Tryd.prog 45 = some [(Value.map none)] := by kernel_rfl
theorem tby45 : Tryd.prog.bytesOf 45 = 8 := by kernel_rfl
theorem tsh46 : tshape Tryd.prog 46 = some (false, 1) := by kernel_rfl
theorem tze46 : tzero Tryd.prog 46 = some [(Value.pointer none)] := by kernel_rfl
theorem tby46 : Tryd.prog.bytesOf 46 = 8 := by kernel_rfl
theorem tsh48 : tshape Tryd.prog 48 = some (false, 1) := by kernel_rfl
theorem tze48 : tzero Tryd.prog 48 = some [Value.nilFunc] := by kernel_rfl
theorem tby48 : Tryd.prog.bytesOf 48 = 8 := by kernel_rfl
theorem tsh50 : tshape Tryd.prog 50 = some (false, 1) := by kernel_rfl
theorem tze50 : tzero Tryd.prog 50 = some [Value.nilFunc] := by kernel_rfl
theorem tby50 : Tryd.prog.bytesOf 50 = 8 := by kernel_rfl
theorem tsh53 : tshape Tryd.prog 53 = some (false, 1) := by kernel_rfl
theorem tze53 : tzero Tryd.prog 53 = some [(Value.map none)] := by kernel_rfl
theorem tby53 : Tryd.prog.bytesOf 53 = 8 := by kernel_rfl
theorem tsh54 : tshape Tryd.prog 54 = some (false, 1) := by kernel_rfl
theorem tze54 : tzero Tryd.prog 54 = some [(Value.slice none 0 0)] := by kernel_rfl
theorem tsl54 : tslice Tryd.prog 54 = some (3, 1) := by kernel_rfl
theorem tby54 : Tryd.prog.bytesOf 54 = 24 := by kernel_rfl
theorem tsh77 : tshape Tryd.prog 77 = some (false, 1) := by kernel_rfl
theorem tze77 : tzero Tryd.prog 77 = some [(Value.pointer none)] := by kernel_rfl
theorem tby77 : Tryd.prog.bytesOf 77 = 8 := by kernel_rfl
theorem tfl24_0 : tfield Tryd.prog 24 0 = some (0, 1) := by kernel_rfl
theorem tfl24_1 : tfield Tryd.prog 24 1 = some (1, 1) := by kernel_rfl
theorem tfl24_2 : tfield Tryd.prog 24 2 = some (2, 1) := by kernel_rfl
theorem tfl24_3 : tfield Tryd.prog 24 3 = some (3, 1) := by kernel_rfl
theorem tfl24_4 : tfield Tryd.prog 24 4 = some (4, 1) := by kernel_rfl
theorem tfl26_0 : tfield Tryd.prog 26 0 = some (0, 1) := by kernel_rfl
theorem tfl26_1 : tfield Tryd.prog 26 1 = some (1, 1) := by kernel_rfl
theorem tfl26_2 : tfield Tryd.prog 26 2 = some (2, 1) := by kernel_rfl
theorem tfl36_0 : tfield Tryd.prog 36 0 = some (0, 1) := by kernel_rfl
theorem tfl36_1 : tfield Tryd.prog 36 1 = some (1, 1) := by kernel_rfl
theorem tfl36_2 : tfield Tryd.prog 36 2 = some (2, 1) := by kernel_rfl
theorem tfl36_3 : tfield Tryd.prog 36 3 = some (3, 1) := by kernel_rfl
theorem tfl36_4 : tfield Tryd.prog 36 4 = some (4, 1) := by kernel_rfl
theorem tfl36_5 : tfield Tryd.prog 36 5 = some (5, 1) := by kernel_rfl
theorem tfl36_6 : tfield Tryd.prog 36 6 = some (6, 1) := by kernel_rfl
theorem tfl36_7 : tfield Tryd.prog 36 7 = some (7, 1) := by kernel_rfl
theorem tfl36_8 : tfield Tryd.prog 36 8 = some (8, 1) := by kernel_rfl
theorem tfl36_9 : tfield Tryd.prog 36 9 = some (9, 1) := by kernel_rfl
theorem tfl36_10 : tfield Tryd.prog 36 10 = some (10, 1) := by kernel_rfl
theorem tpl24_3 : tplaces Tryd.prog 24 [3] = some [(3, 1)] := by kernel_rfl
theorem tpl26_0 : tplaces Tryd.prog 26 [0] = some [(0, 1)] := by kernel_rfl
theorem tpl26_0_1 : tplaces Tryd.prog 26 [0, 1] = some [(0, 1), (1, 1)] := by kernel_rfl
theorem tpl26_0_1_2 : tplaces Tryd.prog 26 [0, 1, 2] = some [(0, 1), (1, 1), (2, 1)] := by kernel_rfl
theorem tpl36_0_2_4_5_7 : tplaces Tryd.prog 36 [0, 2, 4, 5, 7] = some [(0, 1), (2, 1), (4, 1), (5, 1), (7, 1)] := by kernel_rfl
theorem tzr22_0 : zrow Tryd.prog 22 0 = some [] := by kernel_rfl
theorem tzr22_1 : zrow Tryd.prog 22 1 = some [(Value.int IntKind.i64 0), (Value.int IntKind.i64 0), (Value.int IntKind.i64 0), (Value.int IntKind.i64 0), (Value.bool false), (Value.bool false), (Value.bool false), (Value.bool false), (Value.int IntKind.u8 0), (Value.int IntKind.i64 0), (Value.int IntKind.i64 0)] := by kernel_rfl
theorem tzr27_1 : zrow Tryd.prog 27 1 = some [(Value.int IntKind.u8 0), (Value.int IntKind.i64 0), (Value.int IntKind.i64 0)] := by kernel_rfl
theorem tzr27_2 : zrow Tryd.prog 27 2 = some [(Value.int IntKind.u8 0), (Value.int IntKind.i64 0), (Value.int IntKind.i64 0), (Value.int IntKind.u8 0), (Value.int IntKind.i64 0), (Value.int IntKind.i64 0)] := by kernel_rfl
theorem tzr27_3 : zrow Tryd.prog 27 3 = some [(Value.int IntKind.u8 0), (Value.int IntKind.i64 0), (Value.int IntKind.i64 0), (Value.int IntKind.u8 0), (Value.int IntKind.i64 0), (Value.int IntKind.i64 0), (Value.int IntKind.u8 0), (Value.int IntKind.i64 0), (Value.int IntKind.i64 0)] := by kernel_rfl
theorem tzr27_4 : zrow Tryd.prog 27 4 = some [(Value.int IntKind.u8 0), (Value.int IntKind.i64 0), (Value.int IntKind.i64 0), (Value.int IntKind.u8 0), (Value.int IntKind.i64 0), (Value.int IntKind.i64 0), (Value.int IntKind.u8 0), (Value.int IntKind.i64 0), (Value.int IntKind.i64 0), (Value.int IntKind.u8 0), (Value.int IntKind.i64 0), (Value.int IntKind.i64 0)] := by kernel_rfl
theorem tzr54_3 : zrow Tryd.prog 54 3 = some [(Value.int IntKind.i64 0), (Value.int IntKind.i64 0), (Value.int IntKind.i64 0)] := by kernel_rfl
theorem teq36 : teq Tryd.prog 36 = some [true, true, true, true, false, false, false, false, true, true, true] := by kernel_rfl
theorem en8 : ∀ args w, (callFunc 8 args).run Tryd.prog w = .ok (.enter 8 args) w := enters_fn Tryd.func8 (by kernel_rfl) rfl
theorem en9 : ∀ args w, (callFunc 9 args).run Tryd.prog w = .ok (.enter 9 args) w := enters_fn Tryd.func9 (by kernel_rfl) rfl
theorem en10 : ∀ args w, (callFunc 10 args).run Tryd.prog w = .ok (.enter 10 args) w := enters_fn Tryd.func10 (by kernel_rfl) rfl
theorem en11 : ∀ args w, (callFunc 11 args).run Tryd.prog w = .ok (.enter 11 args) w := enters_fn Tryd.func11 (by kernel_rfl) rfl
theorem en12 : ∀ args w, (callFunc 12 args).run Tryd.prog w = .ok (.enter 12 args) w := enters_fn Tryd.func12 (by kernel_rfl) rfl
theorem en13 : ∀ args w, (callFunc 13 args).run Tryd.prog w = .ok (.enter 13 args) w := enters_fn Tryd.func13 (by kernel_rfl) rfl
theorem en14 : ∀ args w, (callFunc 14 args).run Tryd.prog w = .ok (.enter 14 args) w := enters_fn Tryd.func14 (by kernel_rfl) rfl
theorem en15 : ∀ args w, (callFunc 15 args).run Tryd.prog w = .ok (.enter 15 args) w := enters_fn Tryd.func15 (by kernel_rfl) rfl
theorem en16 : ∀ args w, (callFunc 16 args).run Tryd.prog w = .ok (.enter 16 args) w := enters_fn Tryd.func16 (by kernel_rfl) rfl
theorem en17 : ∀ args w, (callFunc 17 args).run Tryd.prog w = .ok (.enter 17 args) w := enters_fn Tryd.func17 (by kernel_rfl) rfl
theorem en18 : ∀ args w, (callFunc 18 args).run Tryd.prog w = .ok (.enter 18 args) w := enters_fn Tryd.func18 (by kernel_rfl) rfl
theorem en19 : ∀ args w, (callFunc 19 args).run Tryd.prog w = .ok (.enter 19 args) w := enters_fn Tryd.func19 (by kernel_rfl) rfl
theorem en20 : ∀ args w, (callFunc 20 args).run Tryd.prog w = .ok (.enter 20 args) w := enters_fn Tryd.func20 (by kernel_rfl) rfl
theorem en21 : ∀ args w, (callFunc 21 args).run Tryd.prog w = .ok (.enter 21 args) w := enters_fn Tryd.func21 (by kernel_rfl) rfl
theorem en22 : ∀ args w, (callFunc 22 args).run Tryd.prog w = .ok (.enter 22 args) w := enters_fn Tryd.func22 (by kernel_rfl) rfl
theorem en23 : ∀ args w, (callFunc 23 args).run Tryd.prog w = .ok (.enter 23 args) w := enters_fn Tryd.func23 (by kernel_rfl) rfl
theorem en24 : ∀ args w, (callFunc 24 args).run Tryd.prog w = .ok (.enter 24 args) w := enters_fn Tryd.func24 (by kernel_rfl) rfl
theorem en25 : ∀ args w, (callFunc 25 args).run Tryd.prog w = .ok (.enter 25 args) w := enters_fn Tryd.func25 (by kernel_rfl) rfl
theorem en26 : ∀ args w, (callFunc 26 args).run Tryd.prog w = .ok (.enter 26 args) w := enters_fn Tryd.func26 (by kernel_rfl) rfl
theorem en27 : ∀ args w, (callFunc 27 args).run Tryd.prog w = .ok (.enter 27 args) w := enters_fn Tryd.func27 (by kernel_rfl) rfl
theorem en28 : ∀ args w, (callFunc 28 args).run Tryd.prog w = .ok (.enter 28 args) w := enters_fn Tryd.func28 (by kernel_rfl) rfl
theorem en29 : ∀ args w, (callFunc 29 args).run Tryd.prog w = .ok (.enter 29 args) w := enters_fn Tryd.func29 (by kernel_rfl) rfl
theorem en30 : ∀ args w, (callFunc 30 args).run Tryd.prog w = .ok (.enter 30 args) w := enters_fn Tryd.func30 (by kernel_rfl) rfl
theorem en31 : ∀ args w, (callFunc 31 args).run Tryd.prog w = .ok (.enter 31 args) w := enters_fn Tryd.func31 (by kernel_rfl) rfl
theorem en32 : ∀ args w, (callFunc 32 args).run Tryd.prog w = .ok (.enter 32 args) w := enters_fn Tryd.func32 (by kernel_rfl) rfl
theorem en49 : ∀ args w, (callFunc 49 args).run Tryd.prog w = .ok (.enter 49 args) w := enters_fn Tryd.func49 (by kernel_rfl) rfl
theorem en50 : ∀ args w, (callFunc 50 args).run Tryd.prog w = .ok (.enter 50 args) w := enters_fn Tryd.func50 (by kernel_rfl) rfl
theorem en51 : ∀ args w, (callFunc 51 args).run Tryd.prog w = .ok (.enter 51 args) w := enters_fn Tryd.func51 (by kernel_rfl) rfl
theorem en52 : ∀ args w, (callFunc 52 args).run Tryd.prog w = .ok (.enter 52 args) w := enters_fn Tryd.func52 (by kernel_rfl) rfl
theorem en53 : ∀ args w, (callFunc 53 args).run Tryd.prog w = .ok (.enter 53 args) w := enters_fn Tryd.func53 (by kernel_rfl) rfl
theorem en54 : ∀ args w, (callFunc 54 args).run Tryd.prog w = .ok (.enter 54 args) w := enters_fn Tryd.func54 (by kernel_rfl) rfl
theorem en55 : ∀ args w, (callFunc 55 args).run Tryd.prog w = .ok (.enter 55 args) w := enters_fn Tryd.func55 (by kernel_rfl) rfl
theorem en56 : ∀ args w, (callFunc 56 args).run Tryd.prog w = .ok (.enter 56 args) w := enters_fn Tryd.func56 (by kernel_rfl) rfl
theorem en57 : ∀ args w, (callFunc 57 args).run Tryd.prog w = .ok (.enter 57 args) w := enters_fn Tryd.func57 (by kernel_rfl) rfl
theorem en58 : ∀ args w, (callFunc 58 args).run Tryd.prog w = .ok (.enter 58 args) w := enters_fn Tryd.func58 (by kernel_rfl) rfl
theorem en59 : ∀ args w, (callFunc 59 args).run Tryd.prog w = .ok (.enter 59 args) w := enters_fn Tryd.func59 (by kernel_rfl) rfl
theorem en60 : ∀ args w, (callFunc 60 args).run Tryd.prog w = .ok (.enter 60 args) w := enters_fn Tryd.func60 (by kernel_rfl) rfl
theorem en61 : ∀ args w, (callFunc 61 args).run Tryd.prog w = .ok (.enter 61 args) w := enters_fn Tryd.func61 (by kernel_rfl) rfl
theorem tmx : Tryd.prog.follows .mixedOrders = true := by kernel_rfl

end Go.Proofs.YtakkoandmkomdaaDoor
