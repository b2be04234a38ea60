/-
The tables of the program: its types, by number, and that its functions are entered. PRINTED BY jw.py.
Conditions: none.
-/
import Derived.Test.YthlmleemapeohaaJs
import Derived.Test.YthlmleemapeohaaJd
import Derived.Test.YthlmleemapeohaaProg
import Derived.KernelRfl
namespace Go.Proofs.Ythlmleemapeohaa
open Go.RowKit

theorem tsh3 : tshape Try.prog 3 = some (false, 1) := by kernel_rfl
theorem tze3 : tzero Try.prog 3 = some [(Value.int IntKind.i64 0)] := by kernel_rfl
theorem tby3 : Try.prog.bytesOf 3 = 8 := by kernel_rfl
theorem tsh5 : tshape Try.prog 5 = some (false, 1) := by kernel_rfl
theorem tze5 : tzero Try.prog 5 = some [(Value.int IntKind.u8 0)] := by kernel_rfl
theorem tby5 : Try.prog.bytesOf 5 = 1 := by kernel_rfl
theorem tsh9 : tshape Try.prog 9 = some (false, 1) := by kernel_rfl
theorem tze9 : tzero Try.prog 9 = some [(Value.string { data := #[] })] := by kernel_rfl
theorem tby9 : Try.prog.bytesOf 9 = 16 := by kernel_rfl
theorem tsh22 : tshape Try.prog 22 = some (false, 1) := by kernel_rfl
theorem tze22 : tzero Try.prog 22 = some [(Value.slice none 0 0)] := by kernel_rfl
theorem tsl22 : tslice Try.prog 22 = some (5, 1) := by kernel_rfl
theorem tby22 : Try.prog.bytesOf 22 = 24 := by kernel_rfl
theorem tsh24 : tshape Try.prog 24 = some (true, 3) := by kernel_rfl
theorem tze24 : tzero Try.prog 24 = some [(Value.slice none 0 0), (Value.int IntKind.i64 0), (Value.int IntKind.i64 0)] := by kernel_rfl
theorem tby24 : Try.prog.bytesOf 24 = 40 := by kernel_rfl
theorem tsh25 : tshape Try.prog 25 = some (false, 1) := by kernel_rfl
theorem tze25 : tzero Try.prog 25 = some [(Value.slice none 0 0)] := by kernel_rfl
theorem tsl25 : tslice Try.prog 25 = some (22, 1) := by kernel_rfl
theorem tby25 : Try.prog.bytesOf 25 = 24 := by kernel_rfl
theorem tsh26 : tshape Try.prog 26 = some (false, 1) := by kernel_rfl
theorem tze26 : tzero Try.prog 26 = some [(Value.slice none 0 0)] := by kernel_rfl
theorem tsl26 : tslice Try.prog 26 = some (3, 1) := by kernel_rfl
theorem tby26 : Try.prog.bytesOf 26 = 24 := by kernel_rfl
theorem tsh30 : tshape Try.prog 30 = some (false, 1) := by kernel_rfl
theorem tze30 : tzero Try.prog 30 = some [(Value.int IntKind.i64 0)] := by kernel_rfl
theorem tby30 : Try.prog.bytesOf 30 = 8 := by kernel_rfl
theorem tsh39 : tshape Try.prog 39 = some (true, 18) := by kernel_rfl
theorem tze39 : tzero Try.prog 39 = some [(Value.slice none 0 0), (Value.int IntKind.i64 0), (Value.int IntKind.i64 0), (Value.slice none 0 0), (Value.int IntKind.i64 0), (Value.int IntKind.i64 0), (Value.slice none 0 0), (Value.int IntKind.i64 0), (Value.int IntKind.i64 0), (Value.slice none 0 0), (Value.int IntKind.i64 0), (Value.int IntKind.i64 0), (Value.slice none 0 0), (Value.int IntKind.i64 0), (Value.int IntKind.i64 0), (Value.slice none 0 0), (Value.int IntKind.i64 0), (Value.int IntKind.i64 0)] := by kernel_rfl
theorem tar39 : tarray Try.prog 39 = some (6, 24, 3) := by kernel_rfl
theorem tby39 : Try.prog.bytesOf 39 = 240 := by kernel_rfl
theorem tsh48 : tshape Try.prog 48 = some (false, 1) := by kernel_rfl
theorem tze48 : tzero Try.prog 48 = some [(Value.pointer none)] := by kernel_rfl
theorem tby48 : Try.prog.bytesOf 48 = 8 := by kernel_rfl
theorem tsh49 : tshape Try.prog 49 = some (false, 1) := by kernel_rfl
theorem tze49 : tzero Try.prog 49 = some [Value.nilFunc] := by kernel_rfl
theorem tby49 : Try.prog.bytesOf 49 = 8 := by kernel_rfl
theorem tfl24_0 : tfield Try.prog 24 0 = some (0, 1) := by kernel_rfl
theorem tfl24_1 : tfield Try.prog 24 1 = some (1, 1) := by kernel_rfl
theorem tfl24_2 : tfield Try.prog 24 2 = some (2, 1) := by kernel_rfl
theorem tpl24_0_1_2 : tplaces Try.prog 24 [0, 1, 2] = some [(0, 1), (1, 1), (2, 1)] := by kernel_rfl
theorem tpl24_1_2 : tplaces Try.prog 24 [1, 2] = some [(1, 1), (2, 1)] := by kernel_rfl
theorem tpl24_2 : tplaces Try.prog 24 [2] = some [(2, 1)] := by kernel_rfl
theorem tpl39_0_1_2_3_4_5 : tplaces Try.prog 39 [0, 1, 2, 3, 4, 5] = some [(0, 3), (3, 3), (6, 3), (9, 3), (12, 3), (15, 3)] := by kernel_rfl
theorem tzr22_0 : zrow Try.prog 22 0 = some [] := by kernel_rfl
theorem tzr22_2 : zrow Try.prog 22 2 = some [(Value.int IntKind.u8 0), (Value.int IntKind.u8 0)] := by kernel_rfl
theorem tzr22_3 : zrow Try.prog 22 3 = some [(Value.int IntKind.u8 0), (Value.int IntKind.u8 0), (Value.int IntKind.u8 0)] := by kernel_rfl
theorem tzr22_4 : zrow Try.prog 22 4 = some [(Value.int IntKind.u8 0), (Value.int IntKind.u8 0), (Value.int IntKind.u8 0), (Value.int IntKind.u8 0)] := by kernel_rfl
theorem tzr25_1 : zrow Try.prog 25 1 = some [(Value.slice none 0 0)] := by kernel_rfl
theorem tzr25_2 : zrow Try.prog 25 2 = some [(Value.slice none 0 0), (Value.slice none 0 0)] := by kernel_rfl
theorem en8 : ∀ args w, (callFunc 8 args).run Try.prog w = .ok (.enter 8 args) w := enters_fn Try.func8 (by kernel_rfl) rfl
theorem en9 : ∀ args w, (callFunc 9 args).run Try.prog w = .ok (.enter 9 args) w := enters_fn Try.func9 (by kernel_rfl) rfl
theorem en10 : ∀ args w, (callFunc 10 args).run Try.prog w = .ok (.enter 10 args) w := enters_fn Try.func10 (by kernel_rfl) rfl
theorem en11 : ∀ args w, (callFunc 11 args).run Try.prog w = .ok (.enter 11 args) w := enters_fn Try.func11 (by kernel_rfl) rfl
theorem en12 : ∀ args w, (callFunc 12 args).run Try.prog w = .ok (.enter 12 args) w := enters_fn Try.func12 (by kernel_rfl) rfl
theorem en13 : ∀ args w, (callFunc 13 args).run Try.prog w = .ok (.enter 13 args) w := enters_fn Try.func13 (by kernel_rfl) rfl
theorem en14 : ∀ args w, (callFunc 14 args).run Try.prog w = .ok (.enter 14 args) w := enters_fn Try.func14 (by kernel_rfl) rfl
theorem en15 : ∀ args w, (callFunc 15 args).run Try.prog w = .ok (.enter 15 args) w := enters_fn Try.func15 (by kernel_rfl) rfl
theorem en16 : ∀ args w, (callFunc 16 args).run Try.prog w = .ok (.enter 16 args) w := enters_fn Try.func16 (by kernel_rfl) rfl
theorem en17 : ∀ args w, (callFunc 17 args).run Try.prog w = .ok (.enter 17 args) w := enters_fn Try.func17 (by kernel_rfl) rfl
theorem en18 : ∀ args w, (callFunc 18 args).run Try.prog w = .ok (.enter 18 args) w := enters_fn Try.func18 (by kernel_rfl) rfl
theorem en19 : ∀ args w, (callFunc 19 args).run Try.prog w = .ok (.enter 19 args) w := enters_fn Try.func19 (by kernel_rfl) rfl
theorem en20 : ∀ args w, (callFunc 20 args).run Try.prog w = .ok (.enter 20 args) w := enters_fn Try.func20 (by kernel_rfl) rfl
theorem en21 : ∀ args w, (callFunc 21 args).run Try.prog w = .ok (.enter 21 args) w := enters_fn Try.func21 (by kernel_rfl) rfl
theorem en22 : ∀ args w, (callFunc 22 args).run Try.prog w = .ok (.enter 22 args) w := enters_fn Try.func22 (by kernel_rfl) rfl
theorem en23 : ∀ args w, (callFunc 23 args).run Try.prog w = .ok (.enter 23 args) w := enters_fn Try.func23 (by kernel_rfl) rfl
theorem en24 : ∀ args w, (callFunc 24 args).run Try.prog w = .ok (.enter 24 args) w := enters_fn Try.func24 (by kernel_rfl) rfl
theorem en25 : ∀ args w, (callFunc 25 args).run Try.prog w = .ok (.enter 25 args) w := enters_fn Try.func25 (by kernel_rfl) rfl
theorem en26 : ∀ args w, (callFunc 26 args).run Try.prog w = .ok (.enter 26 args) w := enters_fn Try.func26 (by kernel_rfl) rfl
theorem en27 : ∀ args w, (callFunc 27 args).run Try.prog w = .ok (.enter 27 args) w := enters_fn Try.func27 (by kernel_rfl) rfl
theorem en28 : ∀ args w, (callFunc 28 args).run Try.prog w = .ok (.enter 28 args) w := enters_fn Try.func28 (by kernel_rfl) rfl
theorem en29 : ∀ args w, (callFunc 29 args).run Try.prog w = .ok (.enter 29 args) w := enters_fn Try.func29 (by kernel_rfl) rfl
theorem en30 : ∀ args w, (callFunc 30 args).run Try.prog w = .ok (.enter 30 args) w := enters_fn Try.func30 (by kernel_rfl) rfl
theorem en31 : ∀ args w, (callFunc 31 args).run Try.prog w = .ok (.enter 31 args) w := enters_fn Try.func31 (by kernel_rfl) rfl
theorem en32 : ∀ args w, (callFunc 32 args).run Try.prog w = .ok (.enter 32 args) w := enters_fn Try.func32 (by kernel_rfl) rfl
theorem en33 : ∀ args w, (callFunc 33 args).run Try.prog w = .ok (.enter 33 args) w := enters_fn Try.func33 (by kernel_rfl) rfl
theorem en34 : ∀ args w, (callFunc 34 args).run Try.prog w = .ok (.enter 34 args) w := enters_fn Try.func34 (by kernel_rfl) rfl
theorem en35 : ∀ args w, (callFunc 35 args).run Try.prog w = .ok (.enter 35 args) w := enters_fn Try.func35 (by kernel_rfl) rfl
theorem en36 : ∀ args w, (callFunc 36 args).run Try.prog w = .ok (.enter 36 args) w := enters_fn Try.func36 (by kernel_rfl) rfl
theorem tmx : Try.prog.follows .mixedOrders = true := by kernel_rfl

end Go.Proofs.Ythlmleemapeohaa
