/-
The tables of the program: its types, by number, and that its functions are entered. PRINTED BY jw.py.
Conditions: none.
-/
import Derived.Test.YtoackajhekdckaaJs
import Derived.Test.YtoackajhekdckaaJd
import Derived.Test.YtoackajhekdckaaJe
import Derived.Test.YtoackajhekdckaaProg
import Derived.KernelRfl
namespace Go.Proofs.Ytoackajhekdckaa
open Go.RowKit

theorem tsh3 : tshape Try.prog 3 = some (false, 1) := by kernel_rfl
theorem tze3 : tzero Try.prog 3 = some [(Value.int IntKind.i64 0)] := by kernel_rfl
theorem tby3 : Try.prog.bytesOf 3 = 8 := by kernel_rfl
theorem tsh4 : tshape Try.prog 4 = some (false, 1) := by kernel_rfl
theorem tze4 : tzero Try.prog 4 = some [(Value.bool false)] := by kernel_rfl
theorem tby4 : Try.prog.bytesOf 4 = 1 := by kernel_rfl
theorem tsh5 : tshape Try.prog 5 = some (false, 1) := by kernel_rfl
theorem tze5 : tzero Try.prog 5 = some [(Value.int IntKind.u8 0)] := by kernel_rfl
theorem tby5 : Try.prog.bytesOf 5 = 1 := by kernel_rfl
theorem tsh22 : tshape Try.prog 22 = some (false, 1) := by kernel_rfl
theorem tze22 : tzero Try.prog 22 = some [(Value.slice none 0 0)] := by kernel_rfl
theorem tsl22 : tslice Try.prog 22 = some (33, 11) := by kernel_rfl
theorem tby22 : Try.prog.bytesOf 22 = 24 := by kernel_rfl
theorem tsh24 : tshape Try.prog 24 = some (true, 5) := by kernel_rfl
theorem tze24 : tzero Try.prog 24 = some [(Value.slice none 0 0), (Value.int IntKind.i64 0), (Value.int IntKind.i64 0), (Value.int IntKind.i64 0), (Value.bool false)] := by kernel_rfl
theorem tby24 : Try.prog.bytesOf 24 = 56 := by kernel_rfl
theorem tsh27 : tshape Try.prog 27 = some (false, 1) := by kernel_rfl
theorem tze27 : tzero Try.prog 27 = some [(Value.slice none 0 0)] := by kernel_rfl
theorem tsl27 : tslice Try.prog 27 = some (28, 1) := by kernel_rfl
theorem tby27 : Try.prog.bytesOf 27 = 24 := by kernel_rfl
theorem tsh28 : tshape Try.prog 28 = some (false, 1) := by kernel_rfl
theorem tze28 : tzero Try.prog 28 = some [(Value.slice none 0 0)] := by kernel_rfl
theorem tsl28 : tslice Try.prog 28 = some (35, 7) := by kernel_rfl
theorem tby28 : Try.prog.bytesOf 28 = 24 := by kernel_rfl
theorem tsh33 : tshape Try.prog 33 = some (true, 11) := by kernel_rfl
theorem tze33 : tzero Try.prog 33 = some [(Value.int IntKind.i64 0), (Value.int IntKind.i64 0), (Value.int IntKind.i64 0), (Value.int IntKind.i64 0), (Value.bool false), (Value.bool false), (Value.bool false), (Value.bool false), (Value.int IntKind.u8 0), (Value.int IntKind.i64 0), (Value.int IntKind.i64 0)] := by kernel_rfl
theorem tby33 : Try.prog.bytesOf 33 = 56 := by kernel_rfl
theorem tsh35 : tshape Try.prog 35 = some (true, 7) := by kernel_rfl
theorem tze35 : tzero Try.prog 35 = some [(Value.int IntKind.i64 0), (Value.int IntKind.i64 0), (Value.int IntKind.i64 0), (Value.int IntKind.i64 0), (Value.bool false), (Value.bool false), (Value.bool false)] := by kernel_rfl
theorem tby35 : Try.prog.bytesOf 35 = 40 := by kernel_rfl
theorem tsh43 : tshape Try.prog 43 = some (true, 6) := by kernel_rfl
theorem tze43 : tzero Try.prog 43 = some [(Value.int IntKind.i64 0), (Value.int IntKind.u8 0), (Value.int IntKind.u8 0), (Value.int IntKind.i64 0), (Value.slice none 0 0), (Value.bool false)] := by kernel_rfl
theorem tby43 : Try.prog.bytesOf 43 = 56 := by kernel_rfl
theorem tsh46 : tshape Try.prog 46 = some (true, 6) := by kernel_rfl
theorem tze46 : tzero Try.prog 46 = some [(Value.int IntKind.u8 0), (Value.int IntKind.i64 0), (Value.int IntKind.i64 0), (Value.int IntKind.i64 0), (Value.int IntKind.i64 0), (Value.int IntKind.i64 0)] := by kernel_rfl
theorem tby46 : Try.prog.bytesOf 46 = 48 := by kernel_rfl
theorem tsh47 : tshape Try.prog 47 = some (false, 1) := by kernel_rfl
theorem tze47 : tzero Try.prog 47 = some [Value.nilFunc] := by kernel_rfl
theorem tby47 : Try.prog.bytesOf 47 = 8 := by kernel_rfl
theorem tsh56 : tshape Try.prog 56 = some (false, 1) := by kernel_rfl
theorem tze56 : tzero Try.prog 56 = some [(Value.map none)] := by kernel_rfl
theorem tby56 : Try.prog.bytesOf 56 = 8 := by kernel_rfl
theorem tsh57 : tshape Try.prog 57 = some (false, 1) := by kernel_rfl
theorem tze57 : tzero Try.prog 57 = some [(Value.slice none 0 0)] := by kernel_rfl
theorem tsl57 : tslice Try.prog 57 = some (3, 1) := by kernel_rfl
theorem tby57 : Try.prog.bytesOf 57 = 24 := by kernel_rfl
theorem tfl24_0 : tfield Try.prog 24 0 = some (0, 1) := by kernel_rfl
theorem tfl24_1 : tfield Try.prog 24 1 = some (1, 1) := by kernel_rfl
theorem tfl24_2 : tfield Try.prog 24 2 = some (2, 1) := by kernel_rfl
theorem tfl24_3 : tfield Try.prog 24 3 = some (3, 1) := by kernel_rfl
theorem tfl24_4 : tfield Try.prog 24 4 = some (4, 1) := by kernel_rfl
theorem tfl33_0 : tfield Try.prog 33 0 = some (0, 1) := by kernel_rfl
theorem tfl33_1 : tfield Try.prog 33 1 = some (1, 1) := by kernel_rfl
theorem tfl33_2 : tfield Try.prog 33 2 = some (2, 1) := by kernel_rfl
theorem tfl33_3 : tfield Try.prog 33 3 = some (3, 1) := by kernel_rfl
theorem tfl33_4 : tfield Try.prog 33 4 = some (4, 1) := by kernel_rfl
theorem tfl33_5 : tfield Try.prog 33 5 = some (5, 1) := by kernel_rfl
theorem tfl33_6 : tfield Try.prog 33 6 = some (6, 1) := by kernel_rfl
theorem tfl33_7 : tfield Try.prog 33 7 = some (7, 1) := by kernel_rfl
theorem tfl33_8 : tfield Try.prog 33 8 = some (8, 1) := by kernel_rfl
theorem tfl35_0 : tfield Try.prog 35 0 = some (0, 1) := by kernel_rfl
theorem tfl43_0 : tfield Try.prog 43 0 = some (0, 1) := by kernel_rfl
theorem tfl43_2 : tfield Try.prog 43 2 = some (2, 1) := by kernel_rfl
theorem tfl43_3 : tfield Try.prog 43 3 = some (3, 1) := by kernel_rfl
theorem tfl43_4 : tfield Try.prog 43 4 = some (4, 1) := by kernel_rfl
theorem tfl43_5 : tfield Try.prog 43 5 = some (5, 1) := by kernel_rfl
theorem tfl46_0 : tfield Try.prog 46 0 = some (0, 1) := by kernel_rfl
theorem tfl46_1 : tfield Try.prog 46 1 = some (1, 1) := by kernel_rfl
theorem tfl46_2 : tfield Try.prog 46 2 = some (2, 1) := by kernel_rfl
theorem tpl24_ : tplaces Try.prog 24 [] = some [] := by kernel_rfl
theorem tpl33_0_1_4_5_7 : tplaces Try.prog 33 [0, 1, 4, 5, 7] = some [(0, 1), (1, 1), (4, 1), (5, 1), (7, 1)] := by kernel_rfl
theorem tpl35_0_1_2_3_4_5_6 : tplaces Try.prog 35 [0, 1, 2, 3, 4, 5, 6] = some [(0, 1), (1, 1), (2, 1), (3, 1), (4, 1), (5, 1), (6, 1)] := by kernel_rfl
theorem tpl43_0_1_2_3 : tplaces Try.prog 43 [0, 1, 2, 3] = some [(0, 1), (1, 1), (2, 1), (3, 1)] := by kernel_rfl
theorem tpl46_0_1_2 : tplaces Try.prog 46 [0, 1, 2] = some [(0, 1), (1, 1), (2, 1)] := by kernel_rfl
theorem tzr22_0 : zrow Try.prog 22 0 = some [] := by kernel_rfl
theorem tzr22_1 : zrow Try.prog 22 1 = some [(Value.int IntKind.i64 0), (Value.int IntKind.i64 0), (Value.int IntKind.i64 0), (Value.int IntKind.i64 0), (Value.bool false), (Value.bool false), (Value.bool false), (Value.bool false), (Value.int IntKind.u8 0), (Value.int IntKind.i64 0), (Value.int IntKind.i64 0)] := by kernel_rfl
theorem tzr27_1 : zrow Try.prog 27 1 = some [(Value.slice none 0 0)] := by kernel_rfl
theorem tzr27_2 : zrow Try.prog 27 2 = some [(Value.slice none 0 0), (Value.slice none 0 0)] := by kernel_rfl
theorem tzr28_1 : zrow Try.prog 28 1 = some [(Value.int IntKind.i64 0), (Value.int IntKind.i64 0), (Value.int IntKind.i64 0), (Value.int IntKind.i64 0), (Value.bool false), (Value.bool false), (Value.bool false)] := by kernel_rfl
theorem tzr57_3 : zrow Try.prog 57 3 = some [(Value.int IntKind.i64 0), (Value.int IntKind.i64 0), (Value.int IntKind.i64 0)] := by kernel_rfl
theorem teq35 : teq Try.prog 35 = some [true, true, true, true, false, false, false] := by kernel_rfl
theorem en7 : ∀ args w, (callFunc 7 args).run Try.prog w = .ok (.enter 7 args) w := enters_fn Try.func7 (by kernel_rfl) rfl
theorem en8 : ∀ args w, (callFunc 8 args).run Try.prog w = .ok (.enter 8 args) w := enters_fn Try.func8 (by kernel_rfl) rfl
theorem en9 : ∀ args w, (callFunc 9 args).run Try.prog w = .ok (.enter 9 args) w := enters_fn Try.func9 (by kernel_rfl) rfl
theorem en10 : ∀ args w, (callFunc 10 args).run Try.prog w = .ok (.enter 10 args) w := enters_fn Try.func10 (by kernel_rfl) rfl
theorem en11 : ∀ args w, (callFunc 11 args).run Try.prog w = .ok (.enter 11 args) w := enters_fn Try.func11 (by kernel_rfl) rfl
theorem en12 : ∀ args w, (callFunc 12 args).run Try.prog w = .ok (.enter 12 args) w := enters_fn Try.func12 (by kernel_rfl) rfl
theorem en13 : ∀ args w, (callFunc 13 args).run Try.prog w = .ok (.enter 13 args) w := enters_fn Try.func13 (by kernel_rfl) rfl
theorem en14 : ∀ args w, (callFunc 14 args).run Try.prog w = .ok (.enter 14 args) w := enters_fn Try.func14 (by kernel_rfl) rfl
theorem en15 : ∀ args w, (callFunc 15 args).run Try.prog w = .ok (.enter 15 args) w := enters_fn Try.func15 (by kernel_rfl) rfl
theorem en16 : ∀ args w, (callFunc 16 args).run Try.prog w = .ok (.enter 16 args) w := enters_fn Try.func16 (by kernel_rfl) rfl
theorem en17 : ∀ args w, (callFunc 17 args).run Try.prog w = .ok (.enter 17 args) w := enters_fn Try.func17 (by kernel_rfl) rfl
theorem en18 : ∀ args w, (callFunc 18 args).run Try.prog w = .ok (.enter 18 args) w := enters_fn Try.func18 (by kernel_rfl) rfl
theorem en19 : ∀ args w, (callFunc 19 args).run Try.prog w = .ok (.enter 19 args) w := enters_fn Try.func19 (by kernel_rfl) rfl
theorem en20 : ∀ args w, (callFunc 20 args).run Try.prog w = .ok (.enter 20 args) w := enters_fn Try.func20 (by kernel_rfl) rfl
theorem en21 : ∀ args w, (callFunc 21 args).run Try.prog w = .ok (.enter 21 args) w := enters_fn Try.func21 (by kernel_rfl) rfl
theorem en22 : ∀ args w, (callFunc 22 args).run Try.prog w = .ok (.enter 22 args) w := enters_fn Try.func22 (by kernel_rfl) rfl
theorem en23 : ∀ args w, (callFunc 23 args).run Try.prog w = .ok (.enter 23 args) w := enters_fn Try.func23 (by kernel_rfl) rfl
theorem en24 : ∀ args w, (callFunc 24 args).run Try.prog w = .ok (.enter 24 args) w := enters_fn Try.func24 (by kernel_rfl) rfl
theorem en25 : ∀ args w, (callFunc 25 args).run Try.prog w = .ok (.enter 25 args) w := enters_fn Try.func25 (by kernel_rfl) rfl
theorem en26 : ∀ args w, (callFunc 26 args).run Try.prog w = .ok (.enter 26 args) w := enters_fn Try.func26 (by kernel_rfl) rfl
theorem en27 : ∀ args w, (callFunc 27 args).run Try.prog w = .ok (.enter 27 args) w := enters_fn Try.func27 (by kernel_rfl) rfl
theorem tmx : Try.prog.follows .mixedOrders = true := by kernel_rfl

end Go.Proofs.Ytoackajhekdckaa
