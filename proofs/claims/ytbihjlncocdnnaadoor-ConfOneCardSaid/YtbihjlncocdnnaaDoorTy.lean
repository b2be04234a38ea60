/-
The tables of the program: its types, by number, and that its functions are entered. PRINTED BY jw.py.
Conditions: none.
-/
import Derived.Test.YtbihjlncocdnnaaDoorJs
import Derived.Test.YtbihjlncocdnnaaDoorJd
import Derived.Test.YtbihjlncocdnnaaDoorJe
import Derived.Test.YtbihjlncocdnnaaDoorProg
import Derived.KernelRfl
namespace Go.Proofs.YtbihjlncocdnnaaDoor
open Go.RowKit

theorem tsh3 : tshape Tryd.prog 3 = some (false, 1) := by kernel_rfl
theorem tze3 : tzero Tryd.prog 3 = some [(Value.int IntKind.i64 0)] := by kernel_rfl
theorem tby3 : Tryd.prog.bytesOf 3 = 8 := by kernel_rfl
theorem tsh4 : tshape Tryd.prog 4 = some (false, 1) := by kernel_rfl
theorem tze4 : tzero Tryd.prog 4 = some [(Value.bool false)] := by kernel_rfl
theorem tby4 : Tryd.prog.bytesOf 4 = 1 := by kernel_rfl
theorem tsh22 : tshape Tryd.prog 22 = some (false, 1) := by kernel_rfl
theorem tze22 : tzero Tryd.prog 22 = some [(Value.slice none 0 0)] := by kernel_rfl
theorem tsl22 : tslice Tryd.prog 22 = some (3, 1) := by kernel_rfl
theorem tby22 : Tryd.prog.bytesOf 22 = 24 := by kernel_rfl
theorem tsh24 : tshape Tryd.prog 24 = some (true, 15) := by kernel_rfl
theorem tze24 : tzero Tryd.prog 24 = some [(Value.int IntKind.i64 0), (Value.int IntKind.i64 0), (Value.int IntKind.i64 0), (Value.int IntKind.i64 0), (Value.int IntKind.i64 0), (Value.int IntKind.i64 0), (Value.int IntKind.i64 0), (Value.int IntKind.i64 0), (Value.int IntKind.i64 0), (Value.int IntKind.i64 0), (Value.int IntKind.i64 0), (Value.int IntKind.i64 0), (Value.int IntKind.i64 0), (Value.bool false), (Value.slice none 0 0)] := by kernel_rfl
theorem tby24 : Tryd.prog.bytesOf 24 = 136 := by kernel_rfl
theorem tsh38 : tshape Tryd.prog 38 = some (false, 1) := by kernel_rfl
theorem tze38 : tzero Tryd.prog 38 = some [(Value.pointer none)] := by kernel_rfl
theorem tby38 : Tryd.prog.bytesOf 38 = 8 := by kernel_rfl
theorem tsh39 : tshape Tryd.prog 39 = some (true, 13) := by kernel_rfl
theorem tze39 : tzero Tryd.prog 39 = some [(Value.pointer none), (Value.pointer none), (Value.pointer none), (Value.pointer none), (Value.pointer none), (Value.pointer none), (Value.pointer none), (Value.pointer none), (Value.pointer none), (Value.pointer none), (Value.pointer none), (Value.pointer none), (Value.pointer none)] := by kernel_rfl
theorem tar39 : tarray Tryd.prog 39 = some (13, 38, 1) := by kernel_rfl
theorem tby39 : Tryd.prog.bytesOf 39 = 104 := by kernel_rfl
theorem tsh40 : tshape Tryd.prog 40 = some (true, 13) := by kernel_rfl
theorem tze40 : tzero Tryd.prog 40 = some [(Value.int IntKind.i64 0), (Value.int IntKind.i64 0), (Value.int IntKind.i64 0), (Value.int IntKind.i64 0), (Value.int IntKind.i64 0), (Value.int IntKind.i64 0), (Value.int IntKind.i64 0), (Value.int IntKind.i64 0), (Value.int IntKind.i64 0), (Value.int IntKind.i64 0), (Value.int IntKind.i64 0), (Value.int IntKind.i64 0), (Value.int IntKind.i64 0)] := by kernel_rfl
theorem tar40 : tarray Tryd.prog 40 = some (13, 3, 1) := by kernel_rfl
theorem tby40 : Tryd.prog.bytesOf 40 = 104 := by kernel_rfl
theorem tsh46 : tshape Tryd.prog 46 = some (false, 1) := by kernel_rfl
theorem tze46 : tzero Tryd.prog 46 = some [(Value.pointer none)] := by kernel_rfl
theorem tby46 : Tryd.prog.bytesOf 46 = 8 := by kernel_rfl
theorem tsh49 : tshape Tryd.prog 49 = some (true, 5) := by kernel_rfl
theorem tze49 : tzero Tryd.prog 49 = some [(Value.int IntKind.i64 0), (Value.int IntKind.i64 0), (Value.int IntKind.i64 0), (Value.int IntKind.i64 0), (Value.int IntKind.i64 0)] := by kernel_rfl
theorem tar49 : tarray Tryd.prog 49 = some (5, 3, 1) := by kernel_rfl
theorem tby49 : Tryd.prog.bytesOf 49 = 40 := by kernel_rfl
theorem tsh52 : tshape Tryd.prog 52 = some (true, 2) := by kernel_rfl
theorem tze52 : tzero Tryd.prog 52 = some [(Value.int IntKind.i64 0), (Value.int IntKind.i64 0)] := by kernel_rfl
theorem tby52 : Tryd.prog.bytesOf 52 = 16 := by kernel_rfl
theorem tsh54 : tshape Tryd.prog 54 = some (true, 26) := by kernel_rfl
theorem tze54 : tzero Tryd.prog 54 = some [(Value.int IntKind.i64 0), (Value.int IntKind.i64 0), (Value.int IntKind.i64 0), (Value.int IntKind.i64 0), (Value.int IntKind.i64 0), (Value.int IntKind.i64 0), (Value.int IntKind.i64 0), (Value.int IntKind.i64 0), (Value.int IntKind.i64 0), (Value.int IntKind.i64 0), (Value.int IntKind.i64 0), (Value.int IntKind.i64 0), (Value.int IntKind.i64 0), (Value.int IntKind.i64 0), (Value.int IntKind.i64 0), (Value.int IntKind.i64 0), (Value.int IntKind.i64 0), (Value.int IntKind.i64 0), (Value.int IntKind.i64 0), (Value.int IntKind.i64 0), (Value.int IntKind.i64 0), (Value.int IntKind.i64 0), (Value.int IntKind.i64 0), (Value.int IntKind.i64 0), (Value.int IntKind.i64 0), (Value.int IntKind.i64 0)] := by kernel_rfl
theorem tar54 : tarray Tryd.prog 54 = some (13, 52, 2) := by kernel_rfl
theorem tby54 : Tryd.prog.bytesOf 54 = 208 := by kernel_rfl
theorem tsh56 : tshape Tryd.prog 56 = some (false, 1) := by kernel_rfl
theorem tze56 : tzero Tryd.prog 56 = some [(Value.slice none 0 0)] := by kernel_rfl
theorem tsl56 : tslice Tryd.prog 56 = some (22, 1) := by kernel_rfl
theorem tby56 : Tryd.prog.bytesOf 56 = 24 := by kernel_rfl
theorem tfl24_0 : tfield Tryd.prog 24 0 = some (0, 1) := by kernel_rfl
theorem tfl24_1 : tfield Tryd.prog 24 1 = some (1, 1) := by kernel_rfl
theorem tfl24_2 : tfield Tryd.prog 24 2 = some (2, 1) := by kernel_rfl
theorem tfl24_3 : tfield Tryd.prog 24 3 = some (3, 1) := by kernel_rfl
theorem tfl24_4 : tfield Tryd.prog 24 4 = some (4, 1) := by kernel_rfl
theorem tfl24_5 : tfield Tryd.prog 24 5 = some (5, 1) := by kernel_rfl
theorem tfl24_6 : tfield Tryd.prog 24 6 = some (6, 1) := by kernel_rfl
theorem tfl24_7 : tfield Tryd.prog 24 7 = some (7, 1) := by kernel_rfl
theorem tfl24_8 : tfield Tryd.prog 24 8 = some (8, 1) := by kernel_rfl
theorem tfl24_9 : tfield Tryd.prog 24 9 = some (9, 1) := by kernel_rfl
theorem tfl24_10 : tfield Tryd.prog 24 10 = some (10, 1) := by kernel_rfl
theorem tfl24_11 : tfield Tryd.prog 24 11 = some (11, 1) := by kernel_rfl
theorem tfl24_12 : tfield Tryd.prog 24 12 = some (12, 1) := by kernel_rfl
theorem tfl24_13 : tfield Tryd.prog 24 13 = some (13, 1) := by kernel_rfl
theorem tfl24_14 : tfield Tryd.prog 24 14 = some (14, 1) := by kernel_rfl
theorem tfl52_0 : tfield Tryd.prog 52 0 = some (0, 1) := by kernel_rfl
theorem tfl52_1 : tfield Tryd.prog 52 1 = some (1, 1) := by kernel_rfl
theorem tpl24_ : tplaces Tryd.prog 24 [] = some [] := by kernel_rfl
theorem tpl24_0_1_2_3_4_5_6_7_8_9_10_11_12_13 : tplaces Tryd.prog 24 [0, 1, 2, 3, 4, 5, 6, 7, 8, 9, 10, 11, 12, 13] = some [(0, 1), (1, 1), (2, 1), (3, 1), (4, 1), (5, 1), (6, 1), (7, 1), (8, 1), (9, 1), (10, 1), (11, 1), (12, 1), (13, 1)] := by kernel_rfl
theorem tpl24_0_1_8_9_10_12 : tplaces Tryd.prog 24 [0, 1, 8, 9, 10, 12] = some [(0, 1), (1, 1), (8, 1), (9, 1), (10, 1), (12, 1)] := by kernel_rfl
theorem tpl39_0_1_2_3_4_5_6_7_8_9_10_11_12 : tplaces Tryd.prog 39 [0, 1, 2, 3, 4, 5, 6, 7, 8, 9, 10, 11, 12] = some [(0, 1), (1, 1), (2, 1), (3, 1), (4, 1), (5, 1), (6, 1), (7, 1), (8, 1), (9, 1), (10, 1), (11, 1), (12, 1)] := by kernel_rfl
theorem tpl40_0_1_2_3_4_5_6_7_8_9_10_11_12 : tplaces Tryd.prog 40 [0, 1, 2, 3, 4, 5, 6, 7, 8, 9, 10, 11, 12] = some [(0, 1), (1, 1), (2, 1), (3, 1), (4, 1), (5, 1), (6, 1), (7, 1), (8, 1), (9, 1), (10, 1), (11, 1), (12, 1)] := by kernel_rfl
theorem tpl49_0_1_2_3_4 : tplaces Tryd.prog 49 [0, 1, 2, 3, 4] = some [(0, 1), (1, 1), (2, 1), (3, 1), (4, 1)] := by kernel_rfl
theorem tpl52_0_1 : tplaces Tryd.prog 52 [0, 1] = some [(0, 1), (1, 1)] := by kernel_rfl
theorem tpl54_0_1_2_3_4_5_6_7_8_9_10_11_12 : tplaces Tryd.prog 54 [0, 1, 2, 3, 4, 5, 6, 7, 8, 9, 10, 11, 12] = some [(0, 2), (2, 2), (4, 2), (6, 2), (8, 2), (10, 2), (12, 2), (14, 2), (16, 2), (18, 2), (20, 2), (22, 2), (24, 2)] := by kernel_rfl
theorem tzr22_0 : zrow Tryd.prog 22 0 = some [] := by kernel_rfl
theorem tzr22_1 : zrow Tryd.prog 22 1 = some [(Value.int IntKind.i64 0)] := by kernel_rfl
theorem tzr22_14 : zrow Tryd.prog 22 14 = some [(Value.int IntKind.i64 0), (Value.int IntKind.i64 0), (Value.int IntKind.i64 0), (Value.int IntKind.i64 0), (Value.int IntKind.i64 0), (Value.int IntKind.i64 0), (Value.int IntKind.i64 0), (Value.int IntKind.i64 0), (Value.int IntKind.i64 0), (Value.int IntKind.i64 0), (Value.int IntKind.i64 0), (Value.int IntKind.i64 0), (Value.int IntKind.i64 0), (Value.int IntKind.i64 0)] := by kernel_rfl
theorem tzr56_3 : zrow Tryd.prog 56 3 = some [(Value.slice none 0 0), (Value.slice none 0 0), (Value.slice none 0 0)] := by kernel_rfl
theorem teq40 : teq Tryd.prog 40 = some [true, true, true, true, true, true, true, true, true, true, true, true, true] := by kernel_rfl
theorem en8 : ∀ args w, (callFunc 8 args).run Tryd.prog w = .ok (.enter 8 args) w := enters_fn Tryd.func8 (by kernel_rfl) rfl
theorem en9 : ∀ args w, (callFunc 9 args).run Tryd.prog w = .ok (.enter 9 args) w := enters_fn Tryd.func9 (by kernel_rfl) rfl
theorem en10 : ∀ args w, (callFunc 10 args).run Tryd.prog w = .ok (.enter 10 args) w := enters_fn Tryd.func10 (by kernel_rfl) rfl
theorem en11 : ∀ args w, (callFunc 11 args).run Tryd.prog w = .ok (.enter 11 args) w := enters_fn Tryd.func11 (by kernel_rfl) rfl
theorem en12 : ∀ args w, (callFunc 12 args).run Tryd.prog w = .ok (.enter 12 args) w := enters_fn Tryd.func12 (by kernel_rfl) rfl
theorem en13 : ∀ args w, (callFunc 13 args).run Tryd.prog w = .ok (.enter 13 args) w := enters_fn Tryd.func13 (by kernel_rfl) rfl
theorem en14 : ∀ args w, (callFunc 14 args).run Tryd.prog w = .ok (.enter 14 args) w := enters_fn Tryd.func14 (by kernel_rfl) rfl
theorem en15 : ∀ args w, (callFunc 15 args).run Tryd.prog w = .ok (.enter 15 args) w := enters_fn Tryd.func15 (by kernel_rfl) rfl
theorem en16 : ∀ args w, (callFunc 16 args).run Tryd.prog w = .ok (.enter 16 args) w := enters_fn Tryd.func16 (by kernel_rfl) rfl
theorem en17 : ∀ args w, (callFunc 17 args).run Tryd.prog w = .ok (.enter 17 args) w := enters_fn Tryd.func17 (by kernel_rfl) rfl
theorem en18 : ∀ args w, (callFunc 18 args).run Tryd.prog w = .ok (.enter 18 args) w := enters_fn Tryd.func18 (by kernel_rfl) rfl
theorem en19 : ∀ args w, (callFunc 19 args).run Tryd.prog w = .ok (.enter 19 args) w := enters_fn Tryd.func19 (by kernel_rfl) rfl
theorem en20 : ∀ args w, (callFunc 20 args).run Tryd.prog w = .ok (.enter 20 args) w := enters_fn Tryd.func20 (by kernel_rfl) rfl
theorem en21 : ∀ args w, (callFunc 21 args).run Tryd.prog w = .ok (.enter 21 args) w := enters_fn Tryd.func21 (by kernel_rfl) rfl
theorem en22 : ∀ args w, (callFunc 22 args).run Tryd.prog w = .ok (.enter 22 args) w := enters_fn Tryd.func22 (by kernel_rfl) rfl
theorem en23 : ∀ args w, (callFunc 23 args).run Tryd.prog w = .ok (.enter 23 args) w := enters_fn Tryd.func23 (by kernel_rfl) rfl
theorem en24 : ∀ args w, (callFunc 24 args).run Tryd.prog w = .ok (.enter 24 args) w := enters_fn Tryd.func24 (by kernel_rfl) rfl
theorem en25 : ∀ args w, (callFunc 25 args).run Tryd.prog w = .ok (.enter 25 args) w := enters_fn Tryd.func25 (by kernel_rfl) rfl
theorem en26 : ∀ args w, (callFunc 26 args).run Tryd.prog w = .ok (.enter 26 args) w := enters_fn Tryd.func26 (by kernel_rfl) rfl
theorem en27 : ∀ args w, (callFunc 27 args).run Tryd.prog w = .ok (.enter 27 args) w := enters_fn Tryd.func27 (by kernel_rfl) rfl
theorem en28 : ∀ args w, (callFunc 28 args).run Tryd.prog w = .ok (.enter 28 args) w := enters_fn Tryd.func28 (by kernel_rfl) rfl
theorem en29 : ∀ args w, (callFunc 29 args).run Tryd.prog w = .ok (.enter 29 args) w := enters_fn Tryd.func29 (by kernel_rfl) rfl
theorem en30 : ∀ args w, (callFunc 30 args).run Tryd.prog w = .ok (.enter 30 args) w := enters_fn Tryd.func30 (by kernel_rfl) rfl
theorem en31 : ∀ args w, (callFunc 31 args).run Tryd.prog w = .ok (.enter 31 args) w := enters_fn Tryd.func31 (by kernel_rfl) rfl
theorem tmx : Tryd.prog.follows .mixedOrders = true := by kernel_rfl

end Go.Proofs.YtbihjlncocdnnaaDoor
