/-
The tables of the program: its types, by number, and that its functions are entered. PRINTED BY jw.py.
Conditions: none.
-/
import Derived.Test.YtghedmholhhadaaJs
import Derived.Test.YtghedmholhhadaaJd
import Derived.Test.YtghedmholhhadaaProg
import Derived.KernelRfl
namespace Go.Proofs.Ytghedmholhhadaa
open Go.RowKit

theorem tsh3 : tshape Try.prog 3 = some (false, 1) := by kernel_rfl
theorem tze3 : tzero Try.prog 3 = some [(Value.int IntKind.i64 0)] := by kernel_rfl
theorem tby3 : Try.prog.bytesOf 3 = 8 := by kernel_rfl
theorem tsh4 : tshape Try.prog 4 = some (false, 1) := by kernel_rfl
theorem tze4 : tzero Try.prog 4 = some [(Value.bool false)] := by kernel_rfl
theorem tby4 : Try.prog.bytesOf 4 = 1 := by kernel_rfl
theorem tsh5 : tshape Try.prog 5 = some (false, 1) := by kernel_rfl
theorem tze5 : tzero Try.prog 5 = some [(Value.int IntKind.u8 0)] := by kernel_rfl
theorem tby5 : Try.prog.bytesOf 5 = 1 := by kernel_rfl
theorem tsh9 : tshape Try.prog 9 = some (false, 1) := by kernel_rfl
theorem tze9 : tzero Try.prog 9 = some [(Value.string { data := #[] })] := by kernel_rfl
theorem tby9 : Try.prog.bytesOf 9 = 16 := by kernel_rfl
theorem tsh23 : tshape Try.prog 23 = some (false, 1) := by kernel_rfl
theorem tze23 : tzero Try.prog 23 = some [(Value.slice none 0 0)] := by kernel_rfl
theorem tsl23 : tslice Try.prog 23 = some (5, 1) := by kernel_rfl
theorem tby23 : Try.prog.bytesOf 23 = 24 := by kernel_rfl
theorem tsh30 : tshape Try.prog 30 = some (false, 1) := by kernel_rfl
theorem tze30 : tzero Try.prog 30 = some [(Value.slice none 0 0)] := by kernel_rfl
theorem tsl30 : tslice Try.prog 30 = some (3, 1) := by kernel_rfl
theorem tby30 : Try.prog.bytesOf 30 = 24 := by kernel_rfl
theorem tsh31 : tshape Try.prog 31 = some (false, 1) := by kernel_rfl
theorem tze31 : tzero Try.prog 31 = some [(Value.int IntKind.u64 0)] := by kernel_rfl
theorem tby31 : Try.prog.bytesOf 31 = 8 := by kernel_rfl
theorem tsh43 : tshape Try.prog 43 = some (false, 1) := by kernel_rfl
theorem tze43 : tzero Try.prog 43 = some [Value.nilFunc] := by kernel_rfl
theorem tby43 : Try.prog.bytesOf 43 = 8 := by kernel_rfl
theorem tzr23_0 : zrow Try.prog 23 0 = some [] := by kernel_rfl
theorem tzr23_1 : zrow Try.prog 23 1 = some [(Value.int IntKind.u8 0)] := by kernel_rfl
theorem tzr23_2 : zrow Try.prog 23 2 = some [(Value.int IntKind.u8 0), (Value.int IntKind.u8 0)] := by kernel_rfl
theorem tzr23_3 : zrow Try.prog 23 3 = some [(Value.int IntKind.u8 0), (Value.int IntKind.u8 0), (Value.int IntKind.u8 0)] := by kernel_rfl
theorem tzr30_1 : zrow Try.prog 30 1 = some [(Value.int IntKind.i64 0)] := by kernel_rfl
theorem tzr30_2 : zrow Try.prog 30 2 = some [(Value.int IntKind.i64 0), (Value.int IntKind.i64 0)] := by kernel_rfl
theorem en7 : ∀ args w, (callFunc 7 args).run Try.prog w = .ok (.enter 7 args) w := enters_fn Try.func7 (by kernel_rfl) rfl
theorem en8 : ∀ args w, (callFunc 8 args).run Try.prog w = .ok (.enter 8 args) w := enters_fn Try.func8 (by kernel_rfl) rfl
theorem en9 : ∀ args w, (callFunc 9 args).run Try.prog w = .ok (.enter 9 args) w := enters_fn Try.func9 (by kernel_rfl) rfl
theorem en10 : ∀ args w, (callFunc 10 args).run Try.prog w = .ok (.enter 10 args) w := enters_fn Try.func10 (by kernel_rfl) rfl
theorem en11 : ∀ args w, (callFunc 11 args).run Try.prog w = .ok (.enter 11 args) w := enters_fn Try.func11 (by kernel_rfl) rfl
theorem en12 : ∀ args w, (callFunc 12 args).run Try.prog w = .ok (.enter 12 args) w := enters_fn Try.func12 (by kernel_rfl) rfl
theorem en13 : ∀ args w, (callFunc 13 args).run Try.prog w = .ok (.enter 13 args) w := enters_fn Try.func13 (by kernel_rfl) rfl
theorem en14 : ∀ args w, (callFunc 14 args).run Try.prog w = .ok (.enter 14 args) w := enters_fn Try.func14 (by kernel_rfl) rfl
theorem en15 : ∀ args w, (callFunc 15 args).run Try.prog w = .ok (.enter 15 args) w := enters_fn Try.func15 (by kernel_rfl) rfl
theorem en16 : ∀ args w, (callFunc 16 args).run Try.prog w = .ok (.enter 16 args) w := enters_fn Try.func16 (by kernel_rfl) rfl
theorem en17 : ∀ args w, (callFunc 17 args).run Try.prog w = .ok (.enter 17 args) w := enters_fn Try.func17 (by kernel_rfl) rfl
theorem en18 : ∀ args w, (callFunc 18 args).run Try.prog w = .ok (.enter 18 args) w := enters_fn Try.func18 (by kernel_rfl) rfl
theorem en19 : ∀ args w, (callFunc 19 args).run Try.prog w = .ok (.enter 19 args) w := enters_fn Try.func19 (by kernel_rfl) rfl
theorem en20 : ∀ args w, (callFunc 20 args).run Try.prog w = .ok (.enter 20 args) w := enters_fn Try.func20 (by kernel_rfl) rfl
theorem en21 : ∀ args w, (callFunc 21 args).run Try.prog w = .ok (.enter 21 args) w := enters_fn Try.func21 (by kernel_rfl) rfl
theorem tmx : Try.prog.follows .mixedOrders = true := by kernel_rfl

end Go.Proofs.Ytghedmholhhadaa
