/-
The tables of the program: its types, by number, and that its functions are entered. PRINTED BY jw.py.
Conditions: none.
-/
import Derived.Test.YtljgaglbgkejhaaDoorJs
import Derived.Test.YtljgaglbgkejhaaDoorJd
import Derived.Test.YtljgaglbgkejhaaDoorJe
import Derived.Test.YtljgaglbgkejhaaDoorProg
import Derived.KernelRfl
namespace Go.Proofs.YtljgaglbgkejhaaDoor
open Go.RowKit

theorem tsh3 : tshape Tryd.prog 3 = some (false, 1) := by kernel_rfl
theorem tze3 : tzero Tryd.prog 3 = some [(Value.int IntKind.i64 0)] := by kernel_rfl
theorem tby3 : Tryd.prog.bytesOf 3 = 8 := by kernel_rfl
theorem tsh4 : tshape Tryd.prog 4 = some (false, 1) := by kernel_rfl
theorem tze4 : tzero Tryd.prog 4 = some [(Value.bool false)] := by kernel_rfl
theorem tby4 : Tryd.prog.bytesOf 4 = 1 := by kernel_rfl
theorem tsh5 : tshape Tryd.prog 5 = some (false, 1) := by kernel_rfl
theorem tze5 : tzero Tryd.prog 5 = some [(Value.int IntKind.u8 0)] := by kernel_rfl
theorem tby5 : Tryd.prog.bytesOf 5 = 1 := by kernel_rfl
theorem tsh9 : tshape Tryd.prog 9 = some (false, 1) := by kernel_rfl
theorem tze9 : tzero Tryd.prog 9 = some [(Value.string { data := #[] })] := by kernel_rfl
theorem tby9 : Tryd.prog.bytesOf 9 = 16 := by kernel_rfl
theorem tsh22 : tshape Tryd.prog 22 = some (false, 1) := by kernel_rfl
theorem tze22 : tzero Tryd.prog 22 = some [(Value.slice none 0 0)] := by kernel_rfl
theorem tsl22 : tslice Tryd.prog 22 = some (3, 1) := by kernel_rfl
theorem tby22 : Tryd.prog.bytesOf 22 = 24 := by kernel_rfl
theorem tsh24 : tshape Tryd.prog 24 = some (true, 2) := by kernel_rfl
theorem tze24 : tzero Tryd.prog 24 = some [(Value.int IntKind.u8 0), (Value.slice none 0 0)] := by kernel_rfl
theorem tby24 : Tryd.prog.bytesOf 24 = 32 := by kernel_rfl
theorem tsh25 : tshape Tryd.prog 25 = some (false, 1) := by kernel_rfl
theorem tze25 : tzero Tryd.prog 25 = some [(Value.slice none 0 0)] := by kernel_rfl
theorem tsl25 : tslice Tryd.prog 25 = some (24, 2) := by kernel_rfl
theorem tby25 : Tryd.prog.bytesOf 25 = 24 := by kernel_rfl
theorem tsh26 : tshape Tryd.prog 26 = some (false, 1) := by kernel_rfl
theorem tze26 : tzero Tryd.prog 26 = some [(Value.slice none 0 0)] := by kernel_rfl
theorem tsl26 : tslice Tryd.prog 26 = some (5, 1) := by kernel_rfl
theorem tby26 : Tryd.prog.bytesOf 26 = 24 := by kernel_rfl
theorem tsh35 : tshape Tryd.prog 35 = some (false, 1) := by kernel_rfl
theorem tze35 : tzero Tryd.prog 35 = some [Value.nilFunc] := by kernel_rfl
theorem tby35 : Tryd.prog.bytesOf 35 = 8 := by kernel_rfl
theorem tsh47 : tshape Tryd.prog 47 = some (true, 17) := by kernel_rfl
theorem tze47 : tzero Tryd.prog 47 = some [(Value.slice none 0 0), (Value.slice none 0 0), (Value.slice none 0 0), (Value.slice none 0 0), (Value.slice none 0 0), (Value.slice none 0 0), (Value.slice none 0 0), (Value.slice none 0 0), (Value.slice none 0 0), (Value.slice none 0 0), (Value.slice none 0 0), (Value.slice none 0 0), (Value.slice none 0 0), (Value.slice none 0 0), (Value.slice none 0 0), (Value.slice none 0 0), (Value.slice none 0 0)] := by kernel_rfl
theorem tar47 : tarray Tryd.prog 47 = some (17, 22, 1) := by kernel_rfl
theorem tby47 : Tryd.prog.bytesOf 47 = 408 := by kernel_rfl
theorem tsh53 : tshape Tryd.prog 53 = some (false, 1) := by kernel_rfl
theorem tze53 : tzero Tryd.prog 53 = some [(Value.map none)] := by kernel_rfl
theorem tby53 : Tryd.prog.bytesOf 53 = 8 := by kernel_rfl
theorem tsh54 : tshape Tryd.prog 54 = some (true, 17) := by kernel_rfl
theorem tze54 : tzero Tryd.prog 54 = some [(Value.string { data := #[] }), (Value.string { data := #[] }), (Value.string { data := #[] }), (Value.string { data := #[] }), (Value.string { data := #[] }), (Value.string { data := #[] }), (Value.string { data := #[] }), (Value.string { data := #[] }), (Value.string { data := #[] }), (Value.string { data := #[] }), (Value.string { data := #[] }), (Value.string { data := #[] }), (Value.string { data := #[] }), (Value.string { data := #[] }), (Value.string { data := #[] }), (Value.string { data := #[] }), (Value.string { data := #[] })] := by kernel_rfl
theorem tar54 : tarray Tryd.prog 54 = some (17, 9, 1) := by kernel_rfl
theorem tby54 : Tryd.prog.bytesOf 54 = 272 := by kernel_rfl
theorem tsh60 : tshape Tryd.prog 60 = some (false, 1) := by kernel_rfl
theorem tze60 : tzero Tryd.prog 60 = some [Value.nilFunc] := by kernel_rfl
theorem tby60 : Tryd.prog.bytesOf 60 = 8 := by kernel_rfl
theorem tsh62 : tshape Tryd.prog 62 = some (false, 1) := by kernel_rfl
theorem tze62 : tzero Tryd.prog 62 = some [(Value.slice none 0 0)] := by kernel_rfl
theorem tsl62 : tslice Tryd.prog 62 = some (22, 1) := by kernel_rfl
theorem tby62 : Tryd.prog.bytesOf 62 = 24 := by kernel_rfl
theorem tfl24_0 : tfield Tryd.prog 24 0 = some (0, 1) := by kernel_rfl
theorem tfl24_1 : tfield Tryd.prog 24 1 = some (1, 1) := by kernel_rfl
theorem tpl24_ : tplaces Tryd.prog 24 [] = some [] := by kernel_rfl
theorem tpl24_0 : tplaces Tryd.prog 24 [0] = some [(0, 1)] := by kernel_rfl
theorem tpl24_0_1 : tplaces Tryd.prog 24 [0, 1] = some [(0, 1), (1, 1)] := by kernel_rfl
theorem tpl47_1_2_3_4_5_6_7_8_9_10_11_12_13_14_15_16 : tplaces Tryd.prog 47 [1, 2, 3, 4, 5, 6, 7, 8, 9, 10, 11, 12, 13, 14, 15, 16] = some [(1, 1), (2, 1), (3, 1), (4, 1), (5, 1), (6, 1), (7, 1), (8, 1), (9, 1), (10, 1), (11, 1), (12, 1), (13, 1), (14, 1), (15, 1), (16, 1)] := by kernel_rfl
theorem tpl54_0_1_2_3_4_5_6_7_8_9_10_11_12_13_14_15_16 : tplaces Tryd.prog 54 [0, 1, 2, 3, 4, 5, 6, 7, 8, 9, 10, 11, 12, 13, 14, 15, 16] = some [(0, 1), (1, 1), (2, 1), (3, 1), (4, 1), (5, 1), (6, 1), (7, 1), (8, 1), (9, 1), (10, 1), (11, 1), (12, 1), (13, 1), (14, 1), (15, 1), (16, 1)] := by kernel_rfl
theorem tzr22_0 : zrow Tryd.prog 22 0 = some [] := by kernel_rfl
theorem tzr22_1 : zrow Tryd.prog 22 1 = some [(Value.int IntKind.i64 0)] := by kernel_rfl
theorem tzr22_2 : zrow Tryd.prog 22 2 = some [(Value.int IntKind.i64 0), (Value.int IntKind.i64 0)] := by kernel_rfl
theorem tzr25_1 : zrow Tryd.prog 25 1 = some [(Value.int IntKind.u8 0), (Value.slice none 0 0)] := by kernel_rfl
theorem tzr25_2 : zrow Tryd.prog 25 2 = some [(Value.int IntKind.u8 0), (Value.slice none 0 0), (Value.int IntKind.u8 0), (Value.slice none 0 0)] := by kernel_rfl
theorem tzr26_0 : zrow Tryd.prog 26 0 = some [] := by kernel_rfl
theorem tzr26_1 : zrow Tryd.prog 26 1 = some [(Value.int IntKind.u8 0)] := by kernel_rfl
theorem tzr26_2 : zrow Tryd.prog 26 2 = some [(Value.int IntKind.u8 0), (Value.int IntKind.u8 0)] := by kernel_rfl
theorem tzr26_5 : zrow Tryd.prog 26 5 = some [(Value.int IntKind.u8 0), (Value.int IntKind.u8 0), (Value.int IntKind.u8 0), (Value.int IntKind.u8 0), (Value.int IntKind.u8 0)] := by kernel_rfl
theorem tzr62_2 : zrow Tryd.prog 62 2 = some [(Value.slice none 0 0), (Value.slice none 0 0)] := by kernel_rfl
theorem en9 : ∀ args w, (callFunc 9 args).run Tryd.prog w = .ok (.enter 9 args) w := enters_fn Tryd.func9 (by kernel_rfl) rfl
theorem en10 : ∀ args w, (callFunc 10 args).run Tryd.prog w = .ok (.enter 10 args) w := enters_fn Tryd.func10 (by kernel_rfl) rfl
theorem en11 : ∀ args w, (callFunc 11 args).run Tryd.prog w = .ok (.enter 11 args) w := enters_fn Tryd.func11 (by kernel_rfl) rfl
theorem en12 : ∀ args w, (callFunc 12 args).run Tryd.prog w = .ok (.enter 12 args) w := enters_fn Tryd.func12 (by kernel_rfl) rfl
theorem en13 : ∀ args w, (callFunc 13 args).run Tryd.prog w = .ok (.enter 13 args) w := enters_fn Tryd.func13 (by kernel_rfl) rfl
theorem en14 : ∀ args w, (callFunc 14 args).run Tryd.prog w = .ok (.enter 14 args) w := enters_fn Tryd.func14 (by kernel_rfl) rfl
theorem en15 : ∀ args w, (callFunc 15 args).run Tryd.prog w = .ok (.enter 15 args) w := enters_fn Tryd.func15 (by kernel_rfl) rfl
theorem en16 : ∀ args w, (callFunc 16 args).run Tryd.prog w = .ok (.enter 16 args) w := enters_fn Tryd.func16 (by kernel_rfl) rfl
theorem en17 : ∀ args w, (callFunc 17 args).run Tryd.prog w = .ok (.enter 17 args) w := enters_fn Tryd.func17 (by kernel_rfl) rfl
theorem en18 : ∀ args w, (callFunc 18 args).run Tryd.prog w = .ok (.enter 18 args) w := enters_fn Tryd.func18 (by kernel_rfl) rfl
theorem en19 : ∀ args w, (callFunc 19 args).run Tryd.prog w = .ok (.enter 19 args) w := enters_fn Tryd.func19 (by kernel_rfl) rfl
theorem en20 : ∀ args w, (callFunc 20 args).run Tryd.prog w = .ok (.enter 20 args) w := enters_fn Tryd.func20 (by kernel_rfl) rfl
theorem en21 : ∀ args w, (callFunc 21 args).run Tryd.prog w = .ok (.enter 21 args) w := enters_fn Tryd.func21 (by kernel_rfl) rfl
theorem en22 : ∀ args w, (callFunc 22 args).run Tryd.prog w = .ok (.enter 22 args) w := enters_fn Tryd.func22 (by kernel_rfl) rfl
theorem en23 : ∀ args w, (callFunc 23 args).run Tryd.prog w = .ok (.enter 23 args) w := enters_fn Tryd.func23 (by kernel_rfl) rfl
theorem en24 : ∀ args w, (callFunc 24 args).run Tryd.prog w = .ok (.enter 24 args) w := enters_fn Tryd.func24 (by kernel_rfl) rfl
theorem en25 : ∀ args w, (callFunc 25 args).run Tryd.prog w = .ok (.enter 25 args) w := enters_fn Tryd.func25 (by kernel_rfl) rfl
theorem en26 : ∀ args w, (callFunc 26 args).run Tryd.prog w = .ok (.enter 26 args) w := enters_fn Tryd.func26 (by kernel_rfl) rfl
theorem en27 : ∀ args w, (callFunc 27 args).run Tryd.prog w = .ok (.enter 27 args) w := enters_fn Tryd.func27 (by kernel_rfl) rfl
theorem en28 : ∀ args w, (callFunc 28 args).run Tryd.prog w = .ok (.enter 28 args) w := enters_fn Tryd.func28 (by kernel_rfl) rfl
theorem en29 : ∀ args w, (callFunc 29 args).run Tryd.prog w = .ok (.enter 29 args) w := enters_fn Tryd.func29 (by kernel_rfl) rfl
theorem en30 : ∀ args w, (callFunc 30 args).run Tryd.prog w = .ok (.enter 30 args) w := enters_fn Tryd.func30 (by kernel_rfl) rfl
theorem en31 : ∀ args w, (callFunc 31 args).run Tryd.prog w = .ok (.enter 31 args) w := enters_fn Tryd.func31 (by kernel_rfl) rfl
theorem en32 : ∀ args w, (callFunc 32 args).run Tryd.prog w = .ok (.enter 32 args) w := enters_fn Tryd.func32 (by kernel_rfl) rfl
theorem en33 : ∀ args w, (callFunc 33 args).run Tryd.prog w = .ok (.enter 33 args) w := enters_fn Tryd.func33 (by kernel_rfl) rfl
theorem en34 : ∀ args w, (callFunc 34 args).run Tryd.prog w = .ok (.enter 34 args) w := enters_fn Tryd.func34 (by kernel_rfl) rfl
theorem en35 : ∀ args w, (callFunc 35 args).run Tryd.prog w = .ok (.enter 35 args) w := enters_fn Tryd.func35 (by kernel_rfl) rfl
theorem en36 : ∀ args w, (callFunc 36 args).run Tryd.prog w = .ok (.enter 36 args) w := enters_fn Tryd.func36 (by kernel_rfl) rfl
theorem en37 : ∀ args w, (callFunc 37 args).run Tryd.prog w = .ok (.enter 37 args) w := enters_fn Tryd.func37 (by kernel_rfl) rfl
theorem en38 : ∀ args w, (callFunc 38 args).run Tryd.prog w = .ok (.enter 38 args) w := enters_fn Tryd.func38 (by kernel_rfl) rfl
theorem en39 : ∀ args w, (callFunc 39 args).run Tryd.prog w = .ok (.enter 39 args) w := enters_fn Tryd.func39 (by kernel_rfl) rfl
theorem en40 : ∀ args w, (callFunc 40 args).run Tryd.prog w = .ok (.enter 40 args) w := enters_fn Tryd.func40 (by kernel_rfl) rfl
theorem en41 : ∀ args w, (callFunc 41 args).run Tryd.prog w = .ok (.enter 41 args) w := enters_fn Tryd.func41 (by kernel_rfl) rfl
theorem en42 : ∀ args w, (callFunc 42 args).run Tryd.prog w = .ok (.enter 42 args) w := enters_fn Tryd.func42 (by kernel_rfl) rfl
theorem en43 : ∀ args w, (callFunc 43 args).run Tryd.prog w = .ok (.enter 43 args) w := enters_fn Tryd.func43 (by kernel_rfl) rfl
theorem en44 : ∀ args w, (callFunc 44 args).run Tryd.prog w = .ok (.enter 44 args) w := enters_fn Tryd.func44 (by kernel_rfl) rfl
theorem en45 : ∀ args w, (callFunc 45 args).run Tryd.prog w = .ok (.enter 45 args) w := enters_fn Tryd.func45 (by kernel_rfl) rfl
theorem en46 : ∀ args w, (callFunc 46 args).run Tryd.prog w = .ok (.enter 46 args) w := enters_fn Tryd.func46 (by kernel_rfl) rfl
theorem en47 : ∀ args w, (callFunc 47 args).run Tryd.prog w = .ok (.enter 47 args) w := enters_fn Tryd.func47 (by kernel_rfl) rfl
theorem en48 : ∀ args w, (callFunc 48 args).run Tryd.prog w = .ok (.enter 48 args) w := enters_fn Tryd.func48 (by kernel_rfl) rfl
theorem en49 : ∀ args w, (callFunc 49 args).run Tryd.prog w = .ok (.enter 49 args) w := enters_fn Tryd.func49 (by kernel_rfl) rfl
theorem en50 : ∀ args w, (callFunc 50 args).run Tryd.prog w = .ok (.enter 50 args) w := enters_fn Tryd.func50 (by kernel_rfl) rfl
theorem tmx : Tryd.prog.follows .mixedOrders = true := by kernel_rfl

end Go.Proofs.YtljgaglbgkejhaaDoor
