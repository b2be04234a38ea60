/-
The tables of the program: its types, by number, and that its functions are entered. PRINTED BY jw.py.
Conditions: none.
-/
import Derived.Test.YtcppphgpbaablaaGreatDoorJs
import Derived.Test.YtcppphgpbaablaaGreatDoorJd
import Derived.Test.YtcppphgpbaablaaGreatDoorJe
import Derived.Test.YtcppphgpbaablaaGreatDoorProg
import Derived.KernelRfl
namespace Go.Proofs.YtcppphgpbaablaaGreatDoor
open Go.RowKit

theorem tsh3 : tshape Tryz.prog 3 = some (false, 1) := by kernel_rfl
theorem tze3 : tzero Tryz.prog 3 = some [(Value.int IntKind.i64 0)] := by kernel_rfl
theorem tby3 : Tryz.prog.bytesOf 3 = 8 := by kernel_rfl
theorem tsh4 : tshape Tryz.prog 4 = some (false, 1) := by kernel_rfl
theorem tze4 : tzero Tryz.prog 4 = some [(Value.bool false)] := by kernel_rfl
theorem tby4 : Tryz.prog.bytesOf 4 = 1 := by kernel_rfl
theorem tsh5 : tshape Tryz.prog 5 = some (false, 1) := by kernel_rfl
theorem tze5 : tzero Tryz.prog 5 = some [(Value.int IntKind.u8 0)] := by kernel_rfl
theorem tby5 : Tryz.prog.bytesOf 5 = 1 := by kernel_rfl
theorem tsh9 : tshape Tryz.prog 9 = some (false, 1) := by kernel_rfl
theorem tze9 : tzero Tryz.prog 9 = some [(Value.string { data := #[] })] := by kernel_rfl
theorem tby9 : Tryz.prog.bytesOf 9 = 16 := by kernel_rfl
theorem tsh22 : tshape Tryz.prog 22 = some (false, 1) := by kernel_rfl
theorem tze22 : tzero Tryz.prog 22 = some [(Value.slice none 0 0)] := by kernel_rfl
theorem tsl22 : tslice Tryz.prog 22 = some (3, 1) := by kernel_rfl
theorem tby22 : Tryz.prog.bytesOf 22 = 24 := by kernel_rfl
theorem tsh24 : tshape Tryz.prog 24 = some (true, 15) := by kernel_rfl
theorem tze24 : tzero Tryz.prog 24 = some [(Value.int IntKind.i64 0), (Value.int IntKind.i64 0), (Value.int IntKind.i64 0), (Value.int IntKind.i64 0), (Value.int IntKind.i64 0), (Value.int IntKind.i64 0), (Value.int IntKind.i64 0), (Value.int IntKind.i64 0), (Value.int IntKind.i64 0), (Value.int IntKind.i64 0), (Value.int IntKind.i64 0), (Value.int IntKind.i64 0), (Value.int IntKind.i64 0), (Value.bool false), (Value.slice none 0 0)] := by kernel_rfl
theorem tby24 : Tryz.prog.bytesOf 24 = 136 := by kernel_rfl
theorem tsh25 : tshape Tryz.prog 25 = some (false, 1) := by kernel_rfl
theorem tze25 : tzero Tryz.prog 25 = some [(Value.slice none 0 0)] := by kernel_rfl
theorem tsl25 : tslice Tryz.prog 25 = some (47, 4) := by kernel_rfl
theorem tby25 : Tryz.prog.bytesOf 25 = 24 := by kernel_rfl
theorem tsh26 : tshape Tryz.prog 26 = some (false, 1) := by kernel_rfl
theorem tze26 : tzero Tryz.prog 26 = some [(Value.slice none 0 0)] := by kernel_rfl
theorem tsl26 : tslice Tryz.prog 26 = some (49, 8) := by kernel_rfl
theorem tby26 : Tryz.prog.bytesOf 26 = 24 := by kernel_rfl
theorem tsh28 : tshape Tryz.prog 28 = some (true, 7) := by kernel_rfl
theorem tze28 : tzero Tryz.prog 28 = some [(Value.int IntKind.u8 0), (Value.int IntKind.i64 0), (Value.int IntKind.i64 0), (Value.int IntKind.i64 0), (Value.bool false), (Value.int IntKind.i64 0), (Value.int IntKind.i64 0)] := by kernel_rfl
theorem tby28 : Tryz.prog.bytesOf 28 = 56 := by kernel_rfl
theorem tsh30 : tshape Tryz.prog 30 = some (true, 27) := by kernel_rfl
theorem tze30 : tzero Tryz.prog 30 = some [(Value.int IntKind.i64 0), (Value.int IntKind.i64 0), (Value.bool false), (Value.int IntKind.i64 0), (Value.int IntKind.i64 0), (Value.int IntKind.i64 0), (Value.int IntKind.i64 0), (Value.int IntKind.i64 0), (Value.int IntKind.i64 0), (Value.int IntKind.i64 0), (Value.int IntKind.i64 0), (Value.int IntKind.i64 0), (Value.int IntKind.i64 0), (Value.int IntKind.i64 0), (Value.int IntKind.i64 0), (Value.int IntKind.i64 0), (Value.bool false), (Value.slice none 0 0), (Value.slice none 0 0), (Value.slice none 0 0), (Value.int IntKind.u8 0), (Value.int IntKind.i64 0), (Value.int IntKind.i64 0), (Value.int IntKind.i64 0), (Value.bool false), (Value.int IntKind.i64 0), (Value.int IntKind.i64 0)] := by kernel_rfl
theorem tby30 : Tryz.prog.bytesOf 30 = 264 := by kernel_rfl
theorem tsh32 : tshape Tryz.prog 32 = some (true, 2) := by kernel_rfl
theorem tze32 : tzero Tryz.prog 32 = some [(Value.int IntKind.u8 0), (Value.slice none 0 0)] := by kernel_rfl
theorem tby32 : Tryz.prog.bytesOf 32 = 32 := by kernel_rfl
theorem tsh36 : tshape Tryz.prog 36 = some (true, 2) := by kernel_rfl
theorem tze36 : tzero Tryz.prog 36 = some [(Value.int IntKind.u8 0), (Value.slice none 0 0)] := by kernel_rfl
theorem tby36 : Tryz.prog.bytesOf 36 = 32 := by kernel_rfl
theorem tsh37 : tshape Tryz.prog 37 = some (false, 1) := by kernel_rfl
theorem tze37 : tzero Tryz.prog 37 = some [(Value.int IntKind.i64 0)] := by kernel_rfl
theorem tby37 : Tryz.prog.bytesOf 37 = 8 := by kernel_rfl
theorem tsh47 : tshape Tryz.prog 47 = some (true, 4) := by kernel_rfl
theorem tze47 : tzero Tryz.prog 47 = some [(Value.int IntKind.i64 0), (Value.int IntKind.i64 0), (Value.int IntKind.i64 0), (Value.bool false)] := by kernel_rfl
theorem tby47 : Tryz.prog.bytesOf 47 = 32 := by kernel_rfl
theorem tsh49 : tshape Tryz.prog 49 = some (true, 8) := by kernel_rfl
theorem tze49 : tzero Tryz.prog 49 = some [(Value.int IntKind.i64 0), (Value.int IntKind.i64 0), (Value.int IntKind.i64 0), (Value.int IntKind.i64 0), (Value.int IntKind.u8 0), (Value.int IntKind.i64 0), (Value.bool false), (Value.bool false)] := by kernel_rfl
theorem tby49 : Tryz.prog.bytesOf 49 = 56 := by kernel_rfl
theorem tsh56 : tshape Tryz.prog 56 = some (false, 1) := by kernel_rfl
theorem tze56 : tzero Tryz.prog 56 = some [(Value.map none)] := by kernel_rfl
theorem tby56 : Tryz.prog.bytesOf 56 = 8 := by kernel_rfl
theorem tsh59 : tshape Tryz.prog 59 = some (true, 29) := by kernel_rfl
theorem tze59 : tzero Tryz.prog 59 = some [(Value.int IntKind.i64 0), (Value.int IntKind.i64 0), (Value.bool false), (Value.int IntKind.i64 0), (Value.int IntKind.i64 0), (Value.int IntKind.i64 0), (Value.int IntKind.i64 0), (Value.int IntKind.i64 0), (Value.int IntKind.i64 0), (Value.int IntKind.i64 0), (Value.int IntKind.i64 0), (Value.int IntKind.i64 0), (Value.int IntKind.i64 0), (Value.int IntKind.i64 0), (Value.int IntKind.i64 0), (Value.int IntKind.i64 0), (Value.bool false), (Value.slice none 0 0), (Value.slice none 0 0), (Value.slice none 0 0), (Value.int IntKind.u8 0), (Value.int IntKind.i64 0), (Value.int IntKind.i64 0), (Value.int IntKind.i64 0), (Value.bool false), (Value.int IntKind.i64 0), (Value.int IntKind.i64 0), (Value.slice none 0 0), (Value.int IntKind.i64 0)] := by kernel_rfl
theorem tby59 : Tryz.prog.bytesOf 59 = 296 := by kernel_rfl
theorem tsh71 : tshape Tryz.prog 71 = some (true, 5) := by kernel_rfl
theorem tze71 : tzero Tryz.prog 71 = some [(Value.int IntKind.i64 0), (Value.int IntKind.i64 0), (Value.int IntKind.i64 0), (Value.int IntKind.i64 0), (Value.int IntKind.i64 0)] := by kernel_rfl
theorem tar71 : tarray Tryz.prog 71 = some (5, 3, 1) := by kernel_rfl
theorem tby71 : Tryz.prog.bytesOf 71 = 40 := by kernel_rfl
theorem tsh76 : tshape Tryz.prog 76 = some (true, 8) := by kernel_rfl
theorem tze76 : tzero Tryz.prog 76 = some [(Value.string { data := #[] }), (Value.string { data := #[] }), (Value.string { data := #[] }), (Value.string { data := #[] }), (Value.string { data := #[] }), (Value.string { data := #[] }), (Value.string { data := #[] }), (Value.string { data := #[] })] := by kernel_rfl
theorem tar76 : tarray Tryz.prog 76 = some (8, 9, 1) := by kernel_rfl
theorem tby76 : Tryz.prog.bytesOf 76 = 128 := by kernel_rfl
theorem tsh80 : tshape Tryz.prog 80 = some (true, 2) := by kernel_rfl
theorem tze80 : tzero Tryz.prog 80 = some [(Value.bool false), (Value.int IntKind.i64 0)] := by kernel_rfl
theorem tby80 : Tryz.prog.bytesOf 80 = 16 := by kernel_rfl
theorem tsh90 : tshape Tryz.prog 90 = some (true, 13) := by kernel_rfl
theorem tze90 : tzero Tryz.prog 90 = some [(Value.int IntKind.i64 0), (Value.int IntKind.i64 0), (Value.int IntKind.i64 0), (Value.int IntKind.i64 0), (Value.int IntKind.i64 0), (Value.int IntKind.i64 0), (Value.int IntKind.i64 0), (Value.int IntKind.i64 0), (Value.int IntKind.i64 0), (Value.int IntKind.i64 0), (Value.int IntKind.i64 0), (Value.int IntKind.i64 0), (Value.int IntKind.i64 0)] := by kernel_rfl
theorem tar90 : tarray Tryz.prog 90 = some (13, 3, 1) := by kernel_rfl
theorem tby90 : Tryz.prog.bytesOf 90 = 104 := by kernel_rfl
theorem tsh97 : tshape Tryz.prog 97 = some (false, 1) := by kernel_rfl
theorem tze97 : tzero Tryz.prog 97 = some [(Value.pointer none)] := by kernel_rfl
theorem tby97 : Tryz.prog.bytesOf 97 = 8 := by kernel_rfl
theorem tsh98 : tshape Tryz.prog 98 = some (false, 1) := by kernel_rfl
theorem tze98 : tzero Tryz.prog 98 = some [(Value.pointer none)] := by kernel_rfl
theorem tby98 : Tryz.prog.bytesOf 98 = 8 := by kernel_rfl
theorem tsh102 : tshape Tryz.prog 102 = some (true, 2) := by kernel_rfl
theorem tze102 : tzero Tryz.prog 102 = some [(Value.int IntKind.i64 0), (Value.int IntKind.i64 0)] := by kernel_rfl
theorem tby102 : Tryz.prog.bytesOf 102 = 16 := by kernel_rfl
theorem tsh103 : tshape Tryz.prog 103 = some (false, 1) := by kernel_rfl
theorem tze103 : tzero Tryz.prog 103 = some [(Value.slice none 0 0)] := by kernel_rfl
theorem tsl103 : tslice Tryz.prog 103 = some (80, 2) := by kernel_rfl
theorem tby103 : Tryz.prog.bytesOf 103 = 24 := by kernel_rfl
theorem tsh107 : tshape Tryz.prog 107 = some (false, 1) := by kernel_rfl
theorem tze107 : tzero Tryz.prog 107 = some [(Value.slice none 0 0)] := by kernel_rfl
theorem tsl107 : tslice Tryz.prog 107 = some (36, 2) := by kernel_rfl
theorem tby107 : Tryz.prog.bytesOf 107 = 24 := by kernel_rfl
theorem tsh112 : tshape Tryz.prog 112 = some (false, 1) := by kernel_rfl
theorem tze112 : tzero Tryz.prog 112 = some [(Value.pointer none)] := by kernel_rfl
theorem tby112 : Tryz.prog.bytesOf 112 = 8 := by kernel_rfl
theorem tsh113 : tshape Tryz.prog 113 = some (true, 26) := by kernel_rfl
theorem tze113 : tzero Tryz.prog 113 = some [(Value.int IntKind.i64 0), (Value.int IntKind.i64 0), (Value.int IntKind.i64 0), (Value.int IntKind.i64 0), (Value.int IntKind.i64 0), (Value.int IntKind.i64 0), (Value.int IntKind.i64 0), (Value.int IntKind.i64 0), (Value.int IntKind.i64 0), (Value.int IntKind.i64 0), (Value.int IntKind.i64 0), (Value.int IntKind.i64 0), (Value.int IntKind.i64 0), (Value.int IntKind.i64 0), (Value.int IntKind.i64 0), (Value.int IntKind.i64 0), (Value.int IntKind.i64 0), (Value.int IntKind.i64 0), (Value.int IntKind.i64 0), (Value.int IntKind.i64 0), (Value.int IntKind.i64 0), (Value.int IntKind.i64 0), (Value.int IntKind.i64 0), (Value.int IntKind.i64 0), (Value.int IntKind.i64 0), (Value.int IntKind.i64 0)] := by kernel_rfl
theorem tar113 : tarray Tryz.prog 113 = some (13, 102, 2) := by kernel_rfl
theorem tby113 : Tryz.prog.bytesOf 113 = 208 := by kernel_rfl
theorem tsh115 : tshape Tryz.prog 115 = some (true, 13) := by kernel_rfl
theorem tze115 : tzero Tryz.prog 115 = some [(Value.pointer none), (Value.pointer none), (Value.pointer none), (Value.pointer none), (Value.pointer none), (Value.pointer none), (Value.pointer none), (Value.pointer none), (Value.pointer none), (Value.pointer none), (Value.pointer none), (Value.pointer none), (Value.pointer none)] := by kernel_rfl
theorem tar115 : tarray Tryz.prog 115 = some (13, 98, 1) := by kernel_rfl
theorem tby115 : Tryz.prog.bytesOf 115 = 104 := by kernel_rfl
theorem tsh116 : tshape Tryz.prog 116 = some (false, 1) := by kernel_rfl
theorem tze116 : tzero Tryz.prog 116 = some [(Value.slice none 0 0)] := by kernel_rfl
theorem tsl116 : tslice Tryz.prog 116 = some (22, 1) := by kernel_rfl
theorem tby116 : Tryz.prog.bytesOf 116 = 24 := by kernel_rfl
theorem tsh120 : tshape Tryz.prog 120 = some (false, 1) := by kernel_rfl
theorem tze120 : tzero Tryz.prog 120 = some [Value.nilFunc] := by kernel_rfl
theorem tby120 : Tryz.prog.bytesOf 120 = 8 := by kernel_rfl
theorem tsh121 : tshape Tryz.prog 121 = some (false, 1) := by kernel_rfl
theorem tze121 : tzero Tryz.prog 121 = some [Value.nilFunc] := by kernel_rfl
theorem tby121 : Tryz.prog.bytesOf 121 = 8 := by kernel_rfl
theorem tsh123 : tshape Tryz.prog 123 = some (true, 2) := by kernel_rfl
theorem tze123 : tzero Tryz.prog 123 = some [(Value.int IntKind.i64 0), Value.nilFunc] := by kernel_rfl
theorem tby123 : Tryz.prog.bytesOf 123 = 16 := by kernel_rfl
theorem tsh125 : tshape Tryz.prog 125 = some (false, 1) := by kernel_rfl
theorem tze125 : tzero Tryz.prog 125 = some [(Value.map none)] := by kernel_rfl
theorem tby125 : Tryz.prog.bytesOf 125 = 8 := by kernel_rfl
theorem tsh128 : tshape Tryz.prog 128 = some (false, 1) := by kernel_rfl
theorem tze128 : tzero Tryz.prog 128 = some [Value.nilFunc] := by kernel_rfl
theorem tby128 : Tryz.prog.bytesOf 128 = 8 := by kernel_rfl
theorem tsh132 : tshape Tryz.prog 132 = some (false, 1) := by kernel_rfl
theorem tze132 : tzero Tryz.prog 132 = some [Value.nilFunc] := by kernel_rfl
theorem tby132 : Tryz.prog.bytesOf 132 = 8 := by kernel_rfl
theorem tsh139 : tshape Tryz.prog 139 = some (false, 1) := by kernel_rfl
theorem tze139 : tzero Tryz.prog 139 = some [(Value.slice none 0 0)] := by kernel_rfl
theorem tsl139 : tslice Tryz.prog 139 = some (5, 1) := by kernel_rfl
theorem tby139 : Tryz.prog.bytesOf 139 = 24 := by kernel_rfl
theorem tsh140 : tshape Tryz.prog 140 = some (true, 11) := by kernel_rfl
theorem tze140 : tzero Tryz.prog 140 = some [(Value.slice none 0 0), (Value.slice none 0 0), (Value.slice none 0 0), (Value.slice none 0 0), (Value.slice none 0 0), (Value.slice none 0 0), (Value.slice none 0 0), (Value.slice none 0 0), (Value.slice none 0 0), (Value.slice none 0 0), (Value.slice none 0 0)] := by kernel_rfl
theorem tar140 : tarray Tryz.prog 140 = some (11, 139, 1) := by kernel_rfl
theorem tby140 : Tryz.prog.bytesOf 140 = 264 := by kernel_rfl
theorem tsh142 : tshape Tryz.prog 142 = some (false, 1) := by kernel_rfl
theorem tze142 : tzero Tryz.prog 142 = some [Value.nilFunc] := by kernel_rfl
theorem tby142 : Tryz.prog.bytesOf 142 = 8 := by kernel_rfl
theorem tfl24_0 : tfield Tryz.prog 24 0 = some (0, 1) := by kernel_rfl
theorem tfl24_1 : tfield Tryz.prog 24 1 = some (1, 1) := by kernel_rfl
theorem tfl24_2 : tfield Tryz.prog 24 2 = some (2, 1) := by kernel_rfl
theorem tfl24_3 : tfield Tryz.prog 24 3 = some (3, 1) := by kernel_rfl
theorem tfl24_4 : tfield Tryz.prog 24 4 = some (4, 1) := by kernel_rfl
theorem tfl24_5 : tfield Tryz.prog 24 5 = some (5, 1) := by kernel_rfl
theorem tfl24_6 : tfield Tryz.prog 24 6 = some (6, 1) := by kernel_rfl
theorem tfl24_7 : tfield Tryz.prog 24 7 = some (7, 1) := by kernel_rfl
theorem tfl24_8 : tfield Tryz.prog 24 8 = some (8, 1) := by kernel_rfl
theorem tfl24_9 : tfield Tryz.prog 24 9 = some (9, 1) := by kernel_rfl
theorem tfl24_10 : tfield Tryz.prog 24 10 = some (10, 1) := by kernel_rfl
theorem tfl24_11 : tfield Tryz.prog 24 11 = some (11, 1) := by kernel_rfl
theorem tfl24_12 : tfield Tryz.prog 24 12 = some (12, 1) := by kernel_rfl
theorem tfl24_13 : tfield Tryz.prog 24 13 = some (13, 1) := by kernel_rfl
theorem tfl24_14 : tfield Tryz.prog 24 14 = some (14, 1) := by kernel_rfl
theorem tfl28_0 : tfield Tryz.prog 28 0 = some (0, 1) := by kernel_rfl
theorem tfl28_1 : tfield Tryz.prog 28 1 = some (1, 1) := by kernel_rfl
theorem tfl28_2 : tfield Tryz.prog 28 2 = some (2, 1) := by kernel_rfl
theorem tfl28_3 : tfield Tryz.prog 28 3 = some (3, 1) := by kernel_rfl
theorem tfl28_4 : tfield Tryz.prog 28 4 = some (4, 1) := by kernel_rfl
theorem tfl28_5 : tfield Tryz.prog 28 5 = some (5, 1) := by kernel_rfl
theorem tfl28_6 : tfield Tryz.prog 28 6 = some (6, 1) := by kernel_rfl
theorem tfl30_0 : tfield Tryz.prog 30 0 = some (0, 1) := by kernel_rfl
theorem tfl30_1 : tfield Tryz.prog 30 1 = some (1, 1) := by kernel_rfl
theorem tfl30_2 : tfield Tryz.prog 30 2 = some (2, 1) := by kernel_rfl
theorem tfl30_3 : tfield Tryz.prog 30 3 = some (3, 15) := by kernel_rfl
theorem tfl30_4 : tfield Tryz.prog 30 4 = some (18, 1) := by kernel_rfl
theorem tfl30_5 : tfield Tryz.prog 30 5 = some (19, 1) := by kernel_rfl
theorem tfl30_6 : tfield Tryz.prog 30 6 = some (20, 7) := by kernel_rfl
theorem tfl32_0 : tfield Tryz.prog 32 0 = some (0, 1) := by kernel_rfl
theorem tfl32_1 : tfield Tryz.prog 32 1 = some (1, 1) := by kernel_rfl
theorem tfl36_0 : tfield Tryz.prog 36 0 = some (0, 1) := by kernel_rfl
theorem tfl36_1 : tfield Tryz.prog 36 1 = some (1, 1) := by kernel_rfl
theorem tfl47_0 : tfield Tryz.prog 47 0 = some (0, 1) := by kernel_rfl
theorem tfl47_1 : tfield Tryz.prog 47 1 = some (1, 1) := by kernel_rfl
theorem tfl47_2 : tfield Tryz.prog 47 2 = some (2, 1) := by kernel_rfl
theorem tfl47_3 : tfield Tryz.prog 47 3 = some (3, 1) := by kernel_rfl
theorem tfl49_0 : tfield Tryz.prog 49 0 = some (0, 1) := by kernel_rfl
theorem tfl49_4 : tfield Tryz.prog 49 4 = some (4, 1) := by kernel_rfl
theorem tfl49_5 : tfield Tryz.prog 49 5 = some (5, 1) := by kernel_rfl
theorem tfl49_6 : tfield Tryz.prog 49 6 = some (6, 1) := by kernel_rfl
theorem tfl49_7 : tfield Tryz.prog 49 7 = some (7, 1) := by kernel_rfl
theorem tfl59_0 : tfield Tryz.prog 59 0 = some (0, 27) := by kernel_rfl
theorem tfl59_1 : tfield Tryz.prog 59 1 = some (27, 1) := by kernel_rfl
theorem tfl59_2 : tfield Tryz.prog 59 2 = some (28, 1) := by kernel_rfl
theorem tfl80_0 : tfield Tryz.prog 80 0 = some (0, 1) := by kernel_rfl
theorem tfl80_1 : tfield Tryz.prog 80 1 = some (1, 1) := by kernel_rfl
theorem tfl102_0 : tfield Tryz.prog 102 0 = some (0, 1) := by kernel_rfl
theorem tfl102_1 : tfield Tryz.prog 102 1 = some (1, 1) := by kernel_rfl
theorem tfl123_0 : tfield Tryz.prog 123 0 = some (0, 1) := by kernel_rfl
theorem tfl123_1 : tfield Tryz.prog 123 1 = some (1, 1) := by kernel_rfl
theorem tpl24_ : tplaces Tryz.prog 24 [] = some [] := by kernel_rfl
theorem tpl24_0_1_2_3_4_5_6_7_8_9_10_11_12_13 : tplaces Tryz.prog 24 [0, 1, 2, 3, 4, 5, 6, 7, 8, 9, 10, 11, 12, 13] = some [(0, 1), (1, 1), (2, 1), (3, 1), (4, 1), (5, 1), (6, 1), (7, 1), (8, 1), (9, 1), (10, 1), (11, 1), (12, 1), (13, 1)] := by kernel_rfl
theorem tpl24_0_1_8_9_10_12 : tplaces Tryz.prog 24 [0, 1, 8, 9, 10, 12] = some [(0, 1), (1, 1), (8, 1), (9, 1), (10, 1), (12, 1)] := by kernel_rfl
theorem tpl28_0_1_2_5 : tplaces Tryz.prog 28 [0, 1, 2, 5] = some [(0, 1), (1, 1), (2, 1), (5, 1)] := by kernel_rfl
theorem tpl30_ : tplaces Tryz.prog 30 [] = some [] := by kernel_rfl
theorem tpl32_0_1 : tplaces Tryz.prog 32 [0, 1] = some [(0, 1), (1, 1)] := by kernel_rfl
theorem tpl36_ : tplaces Tryz.prog 36 [] = some [] := by kernel_rfl
theorem tpl36_0_1 : tplaces Tryz.prog 36 [0, 1] = some [(0, 1), (1, 1)] := by kernel_rfl
theorem tpl47_0_1_2_3 : tplaces Tryz.prog 47 [0, 1, 2, 3] = some [(0, 1), (1, 1), (2, 1), (3, 1)] := by kernel_rfl
theorem tpl49_ : tplaces Tryz.prog 49 [] = some [] := by kernel_rfl
theorem tpl49_0_1_2_3_4_5 : tplaces Tryz.prog 49 [0, 1, 2, 3, 4, 5] = some [(0, 1), (1, 1), (2, 1), (3, 1), (4, 1), (5, 1)] := by kernel_rfl
theorem tpl59_0_1_2 : tplaces Tryz.prog 59 [0, 1, 2] = some [(0, 27), (27, 1), (28, 1)] := by kernel_rfl
theorem tpl71_0_1_2_3_4 : tplaces Tryz.prog 71 [0, 1, 2, 3, 4] = some [(0, 1), (1, 1), (2, 1), (3, 1), (4, 1)] := by kernel_rfl
theorem tpl76_0_1_2_3_4_5_6_7 : tplaces Tryz.prog 76 [0, 1, 2, 3, 4, 5, 6, 7] = some [(0, 1), (1, 1), (2, 1), (3, 1), (4, 1), (5, 1), (6, 1), (7, 1)] := by kernel_rfl
theorem tpl80_0_1 : tplaces Tryz.prog 80 [0, 1] = some [(0, 1), (1, 1)] := by kernel_rfl
theorem tpl90_0_1_2_3_4_5_6_7_8_9_10_11_12 : tplaces Tryz.prog 90 [0, 1, 2, 3, 4, 5, 6, 7, 8, 9, 10, 11, 12] = some [(0, 1), (1, 1), (2, 1), (3, 1), (4, 1), (5, 1), (6, 1), (7, 1), (8, 1), (9, 1), (10, 1), (11, 1), (12, 1)] := by kernel_rfl
theorem tpl102_0_1 : tplaces Tryz.prog 102 [0, 1] = some [(0, 1), (1, 1)] := by kernel_rfl
theorem tpl113_0_1_2_3_4_5_6_7_8_9_10_11_12 : tplaces Tryz.prog 113 [0, 1, 2, 3, 4, 5, 6, 7, 8, 9, 10, 11, 12] = some [(0, 2), (2, 2), (4, 2), (6, 2), (8, 2), (10, 2), (12, 2), (14, 2), (16, 2), (18, 2), (20, 2), (22, 2), (24, 2)] := by kernel_rfl
theorem tpl115_0_1_2_3_4_5_6_7_8_9_10_11_12 : tplaces Tryz.prog 115 [0, 1, 2, 3, 4, 5, 6, 7, 8, 9, 10, 11, 12] = some [(0, 1), (1, 1), (2, 1), (3, 1), (4, 1), (5, 1), (6, 1), (7, 1), (8, 1), (9, 1), (10, 1), (11, 1), (12, 1)] := by kernel_rfl
theorem tpl123_0_1 : tplaces Tryz.prog 123 [0, 1] = some [(0, 1), (1, 1)] := by kernel_rfl
theorem tpl140_1_2_3_4_5_6_7_9_10 : tplaces Tryz.prog 140 [1, 2, 3, 4, 5, 6, 7, 9, 10] = some [(1, 1), (2, 1), (3, 1), (4, 1), (5, 1), (6, 1), (7, 1), (9, 1), (10, 1)] := by kernel_rfl
theorem tzr22_0 : zrow Tryz.prog 22 0 = some [] := by kernel_rfl
theorem tzr22_1 : zrow Tryz.prog 22 1 = some [(Value.int IntKind.i64 0)] := by kernel_rfl
theorem tzr22_2 : zrow Tryz.prog 22 2 = some [(Value.int IntKind.i64 0), (Value.int IntKind.i64 0)] := by kernel_rfl
theorem tzr25_0 : zrow Tryz.prog 25 0 = some [] := by kernel_rfl
theorem tzr25_1 : zrow Tryz.prog 25 1 = some [(Value.int IntKind.i64 0), (Value.int IntKind.i64 0), (Value.int IntKind.i64 0), (Value.bool false)] := by kernel_rfl
theorem tzr26_0 : zrow Tryz.prog 26 0 = some [] := by kernel_rfl
theorem tzr26_1 : zrow Tryz.prog 26 1 = some [(Value.int IntKind.i64 0), (Value.int IntKind.i64 0), (Value.int IntKind.i64 0), (Value.int IntKind.i64 0), (Value.int IntKind.u8 0), (Value.int IntKind.i64 0), (Value.bool false), (Value.bool false)] := by kernel_rfl
theorem tzr103_1 : zrow Tryz.prog 103 1 = some [(Value.bool false), (Value.int IntKind.i64 0)] := by kernel_rfl
theorem tzr103_2 : zrow Tryz.prog 103 2 = some [(Value.bool false), (Value.int IntKind.i64 0), (Value.bool false), (Value.int IntKind.i64 0)] := by kernel_rfl
theorem tzr103_3 : zrow Tryz.prog 103 3 = some [(Value.bool false), (Value.int IntKind.i64 0), (Value.bool false), (Value.int IntKind.i64 0), (Value.bool false), (Value.int IntKind.i64 0)] := by kernel_rfl
theorem tzr107_1 : zrow Tryz.prog 107 1 = some [(Value.int IntKind.u8 0), (Value.slice none 0 0)] := by kernel_rfl
theorem tzr116_3 : zrow Tryz.prog 116 3 = some [(Value.slice none 0 0), (Value.slice none 0 0), (Value.slice none 0 0)] := by kernel_rfl
theorem tzr139_1 : zrow Tryz.prog 139 1 = some [(Value.int IntKind.u8 0)] := by kernel_rfl
theorem tzr139_2 : zrow Tryz.prog 139 2 = some [(Value.int IntKind.u8 0), (Value.int IntKind.u8 0)] := by kernel_rfl
theorem teq28 : teq Tryz.prog 28 = some [true, true, true, true, false, true, true] := by kernel_rfl
theorem teq47 : teq Tryz.prog 47 = some [true, true, true, false] := by kernel_rfl
theorem teq49 : teq Tryz.prog 49 = some [true, true, true, true, true, true, false, false] := by kernel_rfl
theorem teq90 : teq Tryz.prog 90 = some [true, true, true, true, true, true, true, true, true, true, true, true, true] := by kernel_rfl
theorem en4 : ∀ args w, (callFunc 4 args).run Tryz.prog w = .ok (.enter 4 args) w := enters_fn Tryz.func4 (by kernel_rfl) rfl
theorem en5 : ∀ args w, (callFunc 5 args).run Tryz.prog w = .ok (.enter 5 args) w := enters_fn Tryz.func5 (by kernel_rfl) rfl
theorem en6 : ∀ args w, (callFunc 6 args).run Tryz.prog w = .ok (.enter 6 args) w := enters_fn Tryz.func6 (by kernel_rfl) rfl
theorem en7 : ∀ args w, (callFunc 7 args).run Tryz.prog w = .ok (.enter 7 args) w := enters_fn Tryz.func7 (by kernel_rfl) rfl
theorem en8 : ∀ args w, (callFunc 8 args).run Tryz.prog w = .ok (.enter 8 args) w := enters_fn Tryz.func8 (by kernel_rfl) rfl
theorem en9 : ∀ args w, (callFunc 9 args).run Tryz.prog w = .ok (.enter 9 args) w := enters_fn Tryz.func9 (by kernel_rfl) rfl
theorem en10 : ∀ args w, (callFunc 10 args).run Tryz.prog w = .ok (.enter 10 args) w := enters_fn Tryz.func10 (by kernel_rfl) rfl
theorem en11 : ∀ args w, (callFunc 11 args).run Tryz.prog w = .ok (.enter 11 args) w := enters_fn Tryz.func11 (by kernel_rfl) rfl
theorem en12 : ∀ args w, (callFunc 12 args).run Tryz.prog w = .ok (.enter 12 args) w := enters_fn Tryz.func12 (by kernel_rfl) rfl
theorem en13 : ∀ args w, (callFunc 13 args).run Tryz.prog w = .ok (.enter 13 args) w := enters_fn Tryz.func13 (by kernel_rfl) rfl
theorem en14 : ∀ args w, (callFunc 14 args).run Tryz.prog w = .ok (.enter 14 args) w := enters_fn Tryz.func14 (by kernel_rfl) rfl
theorem en15 : ∀ args w, (callFunc 15 args).run Tryz.prog w = .ok (.enter 15 args) w := enters_fn Tryz.func15 (by kernel_rfl) rfl
theorem en16 : ∀ args w, (callFunc 16 args).run Tryz.prog w = .ok (.enter 16 args) w := enters_fn Tryz.func16 (by kernel_rfl) rfl
theorem en17 : ∀ args w, (callFunc 17 args).run Tryz.prog w = .ok (.enter 17 args) w := enters_fn Tryz.func17 (by kernel_rfl) rfl
theorem en18 : ∀ args w, (callFunc 18 args).run Tryz.prog w = .ok (.enter 18 args) w := enters_fn Tryz.func18 (by kernel_rfl) rfl
theorem en19 : ∀ args w, (callFunc 19 args).run Tryz.prog w = .ok (.enter 19 args) w := enters_fn Tryz.func19 (by kernel_rfl) rfl
theorem en20 : ∀ args w, (callFunc 20 args).run Tryz.prog w = .ok (.enter 20 args) w := enters_fn Tryz.func20 (by kernel_rfl) rfl
theorem en21 : ∀ args w, (callFunc 21 args).run Tryz.prog w = .ok (.enter 21 args) w := enters_fn Tryz.func21 (by kernel_rfl) rfl
theorem en22 : ∀ args w, (callFunc 22 args).run Tryz.prog w = .ok (.enter 22 args) w := enters_fn Tryz.func22 (by kernel_rfl) rfl
theorem en23 : ∀ args w, (callFunc 23 args).run Tryz.prog w = .ok (.enter 23 args) w := enters_fn Tryz.func23 (by kernel_rfl) rfl
theorem en24 : ∀ args w, (callFunc 24 args).run Tryz.prog w = .ok (.enter 24 args) w := enters_fn Tryz.func24 (by kernel_rfl) rfl
theorem en25 : ∀ args w, (callFunc 25 args).run Tryz.prog w = .ok (.enter 25 args) w := enters_fn Tryz.func25 (by kernel_rfl) rfl
theorem en26 : ∀ args w, (callFunc 26 args).run Tryz.prog w = .ok (.enter 26 args) w := enters_fn Tryz.func26 (by kernel_rfl) rfl
theorem en27 : ∀ args w, (callFunc 27 args).run Tryz.prog w = .ok (.enter 27 args) w := enters_fn Tryz.func27 (by kernel_rfl) rfl
theorem en28 : ∀ args w, (callFunc 28 args).run Tryz.prog w = .ok (.enter 28 args) w := enters_fn Tryz.func28 (by kernel_rfl) rfl
theorem en29 : ∀ args w, (callFunc 29 args).run Tryz.prog w = .ok (.enter 29 args) w := enters_fn Tryz.func29 (by kernel_rfl) rfl
theorem en30 : ∀ args w, (callFunc 30 args).run Tryz.prog w = .ok (.enter 30 args) w := enters_fn Tryz.func30 (by kernel_rfl) rfl
theorem en31 : ∀ args w, (callFunc 31 args).run Tryz.prog w = .ok (.enter 31 args) w := enters_fn Tryz.func31 (by kernel_rfl) rfl
theorem en32 : ∀ args w, (callFunc 32 args).run Tryz.prog w = .ok (.enter 32 args) w := enters_fn Tryz.func32 (by kernel_rfl) rfl
theorem en33 : ∀ args w, (callFunc 33 args).run Tryz.prog w = .ok (.enter 33 args) w := enters_fn Tryz.func33 (by kernel_rfl) rfl
theorem en34 : ∀ args w, (callFunc 34 args).run Tryz.prog w = .ok (.enter 34 args) w := enters_fn Tryz.func34 (by kernel_rfl) rfl
theorem en35 : ∀ args w, (callFunc 35 args).run Tryz.prog w = .ok (.enter 35 args) w := enters_fn Tryz.func35 (by kernel_rfl) rfl
theorem en36 : ∀ args w, (callFunc 36 args).run Tryz.prog w = .ok (.enter 36 args) w := enters_fn Tryz.func36 (by kernel_rfl) rfl
theorem en37 : ∀ args w, (callFunc 37 args).run Tryz.prog w = .ok (.enter 37 args) w := enters_fn Tryz.func37 (by kernel_rfl) rfl
theorem en38 : ∀ args w, (callFunc 38 args).run Tryz.prog w = .ok (.enter 38 args) w := enters_fn Tryz.func38 (by kernel_rfl) rfl
theorem en39 : ∀ args w, (callFunc 39 args).run Tryz.prog w = .ok (.enter 39 args) w := enters_fn Tryz.func39 (by kernel_rfl) rfl
theorem en40 : ∀ args w, (callFunc 40 args).run Tryz.prog w = .ok (.enter 40 args) w := enters_fn Tryz.func40 (by kernel_rfl) rfl
theorem en41 : ∀ args w, (callFunc 41 args).run Tryz.prog w = .ok (.enter 41 args) w := enters_fn Tryz.func41 (by kernel_rfl) rfl
theorem en42 : ∀ args w, (callFunc 42 args).run Tryz.prog w = .ok (.enter 42 args) w := enters_fn Tryz.func42 (by kernel_rfl) rfl
theorem en43 : ∀ args w, (callFunc 43 args).run Tryz.prog w = .ok (.enter 43 args) w := enters_fn Tryz.func43 (by kernel_rfl) rfl
theorem en44 : ∀ args w, (callFunc 44 args).run Tryz.prog w = .ok (.enter 44 args) w := enters_fn Tryz.func44 (by kernel_rfl) rfl
theorem en45 : ∀ args w, (callFunc 45 args).run Tryz.prog w = .ok (.enter 45 args) w := enters_fn Tryz.func45 (by kernel_rfl) rfl
theorem en46 : ∀ args w, (callFunc 46 args).run Tryz.prog w = .ok (.enter 46 args) w := enters_fn Tryz.func46 (by kernel_rfl) rfl
theorem en47 : ∀ args w, (callFunc 47 args).run Tryz.prog w = .ok (.enter 47 args) w := enters_fn Tryz.func47 (by kernel_rfl) rfl
theorem en48 : ∀ args w, (callFunc 48 args).run Tryz.prog w = .ok (.enter 48 args) w := enters_fn Tryz.func48 (by kernel_rfl) rfl
theorem en49 : ∀ args w, (callFunc 49 args).run Tryz.prog w = .ok (.enter 49 args) w := enters_fn Tryz.func49 (by kernel_rfl) rfl
theorem en50 : ∀ args w, (callFunc 50 args).run Tryz.prog w = .ok (.enter 50 args) w := enters_fn Tryz.func50 (by kernel_rfl) rfl
theorem en51 : ∀ args w, (callFunc 51 args).run Tryz.prog w = .ok (.enter 51 args) w := enters_fn Tryz.func51 (by kernel_rfl) rfl
theorem en52 : ∀ args w, (callFunc 52 args).run Tryz.prog w = .ok (.enter 52 args) w := enters_fn Tryz.func52 (by kernel_rfl) rfl
theorem en53 : ∀ args w, (callFunc 53 args).run Tryz.prog w = .ok (.enter 53 args) w := enters_fn Tryz.func53 (by kernel_rfl) rfl
theorem en54 : ∀ args w, (callFunc 54 args).run Tryz.prog w = .ok (.enter 54 args) w := enters_fn Tryz.func54 (by kernel_rfl) rfl
theorem en55 : ∀ args w, (callFunc 55 args).run Tryz.prog w = .ok (.enter 55 args) w := enters_fn Tryz.func55 (by kernel_rfl) rfl
theorem en56 : ∀ args w, (callFunc 56 args).run Tryz.prog w = .ok (.enter 56 args) w := enters_fn Tryz.func56 (by kernel_rfl) rfl
theorem en57 : ∀ args w, (callFunc 57 args).run Tryz.prog w = .ok (.enter 57 args) w := enters_fn Tryz.func57 (by kernel_rfl) rfl
theorem en58 : ∀ args w, (callFunc 58 args).run Tryz.prog w = .ok (.enter 58 args) w := enters_fn Tryz.func58 (by kernel_rfl) rfl
theorem en59 : ∀ args w, (callFunc 59 args).run Tryz.prog w = .ok (.enter 59 args) w := enters_fn Tryz.func59 (by kernel_rfl) rfl
theorem en60 : ∀ args w, (callFunc 60 args).run Tryz.prog w = .ok (.enter 60 args) w := enters_fn Tryz.func60 (by kernel_rfl) rfl
theorem en61 : ∀ args w, (callFunc 61 args).run Tryz.prog w = .ok (.enter 61 args) w := enters_fn Tryz.func61 (by kernel_rfl) rfl
theorem en62 : ∀ args w, (callFunc 62 args).run Tryz.prog w = .ok (.enter 62 args) w := enters_fn Tryz.func62 (by kernel_rfl) rfl
theorem en63 : ∀ args w, (callFunc 63 args).run Tryz.prog w = .ok (.enter 63 args) w := enters_fn Tryz.func63 (by kernel_rfl) rfl
theorem en64 : ∀ args w, (callFunc 64 args).run Tryz.prog w = .ok (.enter 64 args) w := enters_fn Tryz.func64 (by kernel_rfl) rfl
theorem en65 : ∀ args w, (callFunc 65 args).run Tryz.prog w = .ok (.enter 65 args) w := enters_fn Tryz.func65 (by kernel_rfl) rfl
theorem en66 : ∀ args w, (callFunc 66 args).run Tryz.prog w = .ok (.enter 66 args) w := enters_fn Tryz.func66 (by kernel_rfl) rfl
theorem en67 : ∀ args w, (callFunc 67 args).run Tryz.prog w = .ok (.enter 67 args) w := enters_fn Tryz.func67 (by kernel_rfl) rfl
theorem en68 : ∀ args w, (callFunc 68 args).run Tryz.prog w = .ok (.enter 68 args) w := enters_fn Tryz.func68 (by kernel_rfl) rfl
theorem en69 : ∀ args w, (callFunc 69 args).run Tryz.prog w = .ok (.enter 69 args) w := enters_fn Tryz.func69 (by kernel_rfl) rfl
theorem en70 : ∀ args w, (callFunc 70 args).run Tryz.prog w = .ok (.enter 70 args) w := enters_fn Tryz.func70 (by kernel_rfl) rfl
theorem en71 : ∀ args w, (callFunc 71 args).run Tryz.prog w = .ok (.enter 71 args) w := enters_fn Tryz.func71 (by kernel_rfl) rfl
theorem en72 : ∀ args w, (callFunc 72 args).run Tryz.prog w = .ok (.enter 72 args) w := enters_fn Tryz.func72 (by kernel_rfl) rfl
theorem en73 : ∀ args w, (callFunc 73 args).run Tryz.prog w = .ok (.enter 73 args) w := enters_fn Tryz.func73 (by kernel_rfl) rfl
theorem en74 : ∀ args w, (callFunc 74 args).run Tryz.prog w = .ok (.enter 74 args) w := enters_fn Tryz.func74 (by kernel_rfl) rfl
theorem en75 : ∀ args w, (callFunc 75 args).run Tryz.prog w = .ok (.enter 75 args) w := enters_fn Tryz.func75 (by kernel_rfl) rfl
theorem en76 : ∀ args w, (callFunc 76 args).run Tryz.prog w = .ok (.enter 76 args) w := enters_fn Tryz.func76 (by kernel_rfl) rfl
theorem en77 : ∀ args w, (callFunc 77 args).run Tryz.prog w = .ok (.enter 77 args) w := enters_fn Tryz.func77 (by kernel_rfl) rfl
theorem en78 : ∀ args w, (callFunc 78 args).run Tryz.prog w = .ok (.enter 78 args) w := enters_fn Tryz.func78 (by kernel_rfl) rfl
theorem en79 : ∀ args w, (callFunc 79 args).run Tryz.prog w = .ok (.enter 79 args) w := enters_fn Tryz.func79 (by kernel_rfl) rfl
theorem en80 : ∀ args w, (callFunc 80 args).run Tryz.prog w = .ok (.enter 80 args) w := enters_fn Tryz.func80 (by kernel_rfl) rfl
theorem en81 : ∀ args w, (callFunc 81 args).run Tryz.prog w = .ok (.enter 81 args) w := enters_fn Tryz.func81 (by kernel_rfl) rfl
theorem en82 : ∀ args w, (callFunc 82 args).run Tryz.prog w = .ok (.enter 82 args) w := enters_fn Tryz.func82 (by kernel_rfl) rfl
theorem en83 : ∀ args w, (callFunc 83 args).run Tryz.prog w = .ok (.enter 83 args) w := enters_fn Tryz.func83 (by kernel_rfl) rfl
theorem en84 : ∀ args w, (callFunc 84 args).run Tryz.prog w = .ok (.enter 84 args) w := enters_fn Tryz.func84 (by kernel_rfl) rfl
theorem en85 : ∀ args w, (callFunc 85 args).run Tryz.prog w = .ok (.enter 85 args) w := enters_fn Tryz.func85 (by kernel_rfl) rfl
theorem en86 : ∀ args w, (callFunc 86 args).run Tryz.prog w = .ok (.enter 86 args) w := enters_fn Tryz.func86 (by kernel_rfl) rfl
theorem en87 : ∀ args w, (callFunc 87 args).run Tryz.prog w = .ok (.enter 87 args) w := enters_fn Tryz.func87 (by kernel_rfl) rfl
theorem en88 : ∀ args w, (callFunc 88 args).run Tryz.prog w = .ok (.enter 88 args) w := enters_fn Tryz.func88 (by kernel_rfl) rfl
theorem en89 : ∀ args w, (callFunc 89 args).run Tryz.prog w = .ok (.enter 89 args) w := enters_fn Tryz.func89 (by kernel_rfl) rfl
theorem en90 : ∀ args w, (callFunc 90 args).run Tryz.prog w = .ok (.enter 90 args) w := enters_fn Tryz.func90 (by kernel_rfl) rfl
theorem en91 : ∀ args w, (callFunc 91 args).run Tryz.prog w = .ok (.enter 91 args) w := enters_fn Tryz.func91 (by kernel_rfl) rfl
theorem en92 : ∀ args w, (callFunc 92 args).run Tryz.prog w = .ok (.enter 92 args) w := enters_fn Tryz.func92 (by kernel_rfl) rfl
theorem en93 : ∀ args w, (callFunc 93 args).run Tryz.prog w = .ok (.enter 93 args) w := enters_fn Tryz.func93 (by kernel_rfl) rfl
theorem en94 : ∀ args w, (callFunc 94 args).run Tryz.prog w = .ok (.enter 94 args) w := enters_fn Tryz.func94 (by kernel_rfl) rfl
theorem en95 : ∀ args w, (callFunc 95 args).run Tryz.prog w = .ok (.enter 95 args) w := enters_fn Tryz.func95 (by kernel_rfl) rfl
theorem en96 : ∀ args w, (callFunc 96 args).run Tryz.prog w = .ok (.enter 96 args) w := enters_fn Tryz.func96 (by kernel_rfl) rfl
theorem en97 : ∀ args w, (callFunc 97 args).run Tryz.prog w = .ok (.enter 97 args) w := enters_fn Tryz.func97 (by kernel_rfl) rfl
theorem en98 : ∀ args w, (callFunc 98 args).run Tryz.prog w = .ok (.enter 98 args) w := enters_fn Tryz.func98 (by kernel_rfl) rfl
theorem en99 : ∀ args w, (callFunc 99 args).run Tryz.prog w = .ok (.enter 99 args) w := enters_fn Tryz.func99 (by kernel_rfl) rfl
theorem en100 : ∀ args w, (callFunc 100 args).run Tryz.prog w = .ok (.enter 100 args) w := enters_fn Tryz.func100 (by kernel_rfl) rfl
theorem en101 : ∀ args w, (callFunc 101 args).run Tryz.prog w = .ok (.enter 101 args) w := enters_fn Tryz.func101 (by kernel_rfl) rfl
theorem en102 : ∀ args w, (callFunc 102 args).run Tryz.prog w = .ok (.enter 102 args) w := enters_fn Tryz.func102 (by kernel_rfl) rfl
theorem en103 : ∀ args w, (callFunc 103 args).run Tryz.prog w = .ok (.enter 103 args) w := enters_fn Tryz.func103 (by kernel_rfl) rfl
theorem en104 : ∀ args w, (callFunc 104 args).run Tryz.prog w = .ok (.enter 104 args) w := enters_fn Tryz.func104 (by kernel_rfl) rfl
theorem en106 : ∀ args w, (callFunc 106 args).run Tryz.prog w = .ok (.enter 106 args) w := enters_fn Tryz.func106 (by kernel_rfl) rfl
theorem en107 : ∀ args w, (callFunc 107 args).run Tryz.prog w = .ok (.enter 107 args) w := enters_fn Tryz.func107 (by kernel_rfl) rfl
theorem en108 : ∀ args w, (callFunc 108 args).run Tryz.prog w = .ok (.enter 108 args) w := enters_fn Tryz.func108 (by kernel_rfl) rfl
theorem tmx : Tryz.prog.follows .mixedOrders = true := by kernel_rfl

end Go.Proofs.YtcppphgpbaablaaGreatDoor
