/-
The tables of the program: its types, by number, and that its functions are entered. PRINTED BY jw.py.
Conditions: none.
-/
import Derived.Test.YtnkekjhijkfckaaJs
import Derived.Test.YtnkekjhijkfckaaJd
import Derived.Test.YtnkekjhijkfckaaProg
import Derived.KernelRfl
namespace Go.Proofs.Ytnkekjhijkfckaa
open Go.RowKit

theorem tsh3 : tshape Try.prog 3 = some (false, 1) := by kernel_rfl
theorem tze3 : tzero Try.prog 3 = some [(Value.int IntKind.i64 0)] := by kernel_rfl
theorem tby3 : Try.prog.bytesOf 3 = 8 := by kernel_rfl
theorem tsh4 : tshape Try.prog 4 = some (false, 1) := by kernel_rfl
theorem tze4 : tzero Try.prog 4 = some [(Value.bool false)] := by kernel_rfl
theorem tby4 : Try.prog.bytesOf 4 = 1 := by kernel_rfl
theorem tsh5 : tshape Try.prog 5 = some (false, 1) := by kernel_rfl
theorem tze5 : tzero Try.prog 5 = some [(Value.int IntKind.u8 0)] := by kernel_rfl
theorem tby5 : Try.prog.bytesOf 5 = 1 := by kernel_rfl
theorem tsh9 : tshape Try.prog 9 = some (false, 1) := by kernel_rfl
theorem tze9 : tzero Try.prog 9 = some [(Value.string { data := #[] })] := by kernel_rfl
theorem tby9 : Try.prog.bytesOf 9 = 16 := by kernel_rfl
theorem tsh22 : tshape Try.prog 22 = some (false, 1) := by kernel_rfl
theorem tze22 : tzero Try.prog 22 = some [(Value.slice none 0 0)] := by kernel_rfl
theorem tsl22 : tslice Try.prog 22 = some (5, 1) := by kernel_rfl
theorem tby22 : Try.prog.bytesOf 22 = 24 := by kernel_rfl
theorem tsh29 : tshape Try.prog 29 = some (false, 1) := by kernel_rfl
theorem tze29 : tzero Try.prog 29 = some [(Value.slice none 0 0)] := by kernel_rfl
theorem tsl29 : tslice Try.prog 29 = some (22, 1) := by kernel_rfl
theorem tby29 : Try.prog.bytesOf 29 = 24 := by kernel_rfl
theorem tsh34 : tshape Try.prog 34 = some (false, 1) := by kernel_rfl
theorem tze34 : tzero Try.prog 34 = some [(Value.int IntKind.u32 0)] := by kernel_rfl
theorem tby34 : Try.prog.bytesOf 34 = 4 := by kernel_rfl
theorem tsh39 : tshape Try.prog 39 = some (false, 1) := by kernel_rfl
theorem tze39 : tzero Try.prog 39 = some [(Value.slice none 0 0)] := by kernel_rfl
theorem tsl39 : tslice Try.prog 39 = some (3, 1) := by kernel_rfl
theorem tby39 : Try.prog.bytesOf 39 = 24 := by kernel_rfl
theorem tzr22_0 : zrow Try.prog 22 0 = some [] := by kernel_rfl
theorem tzr22_1 : zrow Try.prog 22 1 = some [(Value.int IntKind.u8 0)] := by kernel_rfl
theorem tzr22_4 : zrow Try.prog 22 4 = some [(Value.int IntKind.u8 0), (Value.int IntKind.u8 0), (Value.int IntKind.u8 0), (Value.int IntKind.u8 0)] := by kernel_rfl
theorem tzr22_5 : zrow Try.prog 22 5 = some [(Value.int IntKind.u8 0), (Value.int IntKind.u8 0), (Value.int IntKind.u8 0), (Value.int IntKind.u8 0), (Value.int IntKind.u8 0)] := by kernel_rfl
theorem tzr22_6 : zrow Try.prog 22 6 = some [(Value.int IntKind.u8 0), (Value.int IntKind.u8 0), (Value.int IntKind.u8 0), (Value.int IntKind.u8 0), (Value.int IntKind.u8 0), (Value.int IntKind.u8 0)] := by kernel_rfl
theorem tzr22_11 : zrow Try.prog 22 11 = some [(Value.int IntKind.u8 0), (Value.int IntKind.u8 0), (Value.int IntKind.u8 0), (Value.int IntKind.u8 0), (Value.int IntKind.u8 0), (Value.int IntKind.u8 0), (Value.int IntKind.u8 0), (Value.int IntKind.u8 0), (Value.int IntKind.u8 0), (Value.int IntKind.u8 0), (Value.int IntKind.u8 0)] := by kernel_rfl
theorem tzr29_1 : zrow Try.prog 29 1 = some [(Value.slice none 0 0)] := by kernel_rfl
theorem tzr39_1 : zrow Try.prog 39 1 = some [(Value.int IntKind.i64 0)] := by kernel_rfl
theorem en8 : ∀ args w, (callFunc 8 args).run Try.prog w = .ok (.enter 8 args) w := enters_fn Try.func8 (by kernel_rfl) rfl
theorem en9 : ∀ args w, (callFunc 9 args).run Try.prog w = .ok (.enter 9 args) w := enters_fn Try.func9 (by kernel_rfl) rfl
theorem en10 : ∀ args w, (callFunc 10 args).run Try.prog w = .ok (.enter 10 args) w := enters_fn Try.func10 (by kernel_rfl) rfl
theorem en11 : ∀ args w, (callFunc 11 args).run Try.prog w = .ok (.enter 11 args) w := enters_fn Try.func11 (by kernel_rfl) rfl
theorem en12 : ∀ args w, (callFunc 12 args).run Try.prog w = .ok (.enter 12 args) w := enters_fn Try.func12 (by kernel_rfl) rfl
theorem en13 : ∀ args w, (callFunc 13 args).run Try.prog w = .ok (.enter 13 args) w := enters_fn Try.func13 (by kernel_rfl) rfl
theorem en14 : ∀ args w, (callFunc 14 args).run Try.prog w = .ok (.enter 14 args) w := enters_fn Try.func14 (by kernel_rfl) rfl
theorem en15 : ∀ args w, (callFunc 15 args).run Try.prog w = .ok (.enter 15 args) w := enters_fn Try.func15 (by kernel_rfl) rfl
theorem en16 : ∀ args w, (callFunc 16 args).run Try.prog w = .ok (.enter 16 args) w := enters_fn Try.func16 (by kernel_rfl) rfl
theorem en17 : ∀ args w, (callFunc 17 args).run Try.prog w = .ok (.enter 17 args) w := enters_fn Try.func17 (by kernel_rfl) rfl
theorem en18 : ∀ args w, (callFunc 18 args).run Try.prog w = .ok (.enter 18 args) w := enters_fn Try.func18 (by kernel_rfl) rfl
theorem en19 : ∀ args w, (callFunc 19 args).run Try.prog w = .ok (.enter 19 args) w := enters_fn Try.func19 (by kernel_rfl) rfl
theorem en20 : ∀ args w, (callFunc 20 args).run Try.prog w = .ok (.enter 20 args) w := enters_fn Try.func20 (by kernel_rfl) rfl
theorem en21 : ∀ args w, (callFunc 21 args).run Try.prog w = .ok (.enter 21 args) w := enters_fn Try.func21 (by kernel_rfl) rfl
theorem en22 : ∀ args w, (callFunc 22 args).run Try.prog w = .ok (.enter 22 args) w := enters_fn Try.func22 (by kernel_rfl) rfl
theorem en23 : ∀ args w, (callFunc 23 args).run Try.prog w = .ok (.enter 23 args) w := enters_fn Try.func23 (by kernel_rfl) rfl
theorem en24 : ∀ args w, (callFunc 24 args).run Try.prog w = .ok (.enter 24 args) w := enters_fn Try.func24 (by kernel_rfl) rfl
theorem en25 : ∀ args w, (callFunc 25 args).run Try.prog w = .ok (.enter 25 args) w := enters_fn Try.func25 (by kernel_rfl) rfl
theorem en26 : ∀ args w, (callFunc 26 args).run Try.prog w = .ok (.enter 26 args) w := enters_fn Try.func26 (by kernel_rfl) rfl
theorem en27 : ∀ args w, (callFunc 27 args).run Try.prog w = .ok (.enter 27 args) w := enters_fn Try.func27 (by kernel_rfl) rfl
theorem en28 : ∀ args w, (callFunc 28 args).run Try.prog w = .ok (.enter 28 args) w := enters_fn Try.func28 (by kernel_rfl) rfl
theorem en29 : ∀ args w, (callFunc 29 args).run Try.prog w = .ok (.enter 29 args) w := enters_fn Try.func29 (by kernel_rfl) rfl
theorem en30 : ∀ args w, (callFunc 30 args).run Try.prog w = .ok (.enter 30 args) w := enters_fn Try.func30 (by kernel_rfl) rfl
theorem en31 : ∀ args w, (callFunc 31 args).run Try.prog w = .ok (.enter 31 args) w := enters_fn Try.func31 (by kernel_rfl) rfl
theorem en32 : ∀ args w, (callFunc 32 args).run Try.prog w = .ok (.enter 32 args) w := enters_fn Try.func32 (by kernel_rfl) rfl
theorem en33 : ∀ args w, (callFunc 33 args).run Try.prog w = .ok (.enter 33 args) w := enters_fn Try.func33 (by kernel_rfl) rfl
theorem en34 : ∀ args w, (callFunc 34 args).run Try.prog w = .ok (.enter 34 args) w := enters_fn Try.func34 (by kernel_rfl) rfl
theorem en35 : ∀ args w, (callFunc 35 args).run Try.prog w = .ok (.enter 35 args) w := enters_fn Try.func35 (by kernel_rfl) rfl
theorem tmx : Try.prog.follows .mixedOrders = true := by kernel_rfl

end Go.Proofs.Ytnkekjhijkfckaa
