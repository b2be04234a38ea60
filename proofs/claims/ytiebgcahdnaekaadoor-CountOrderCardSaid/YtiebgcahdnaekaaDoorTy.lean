/-
The tables of the program: its types, by number, and that its functions are entered. PRINTED BY jw.py.
Conditions: none.
-/
import Derived.Test.YtiebgcahdnaekaaDoorJs
import Derived.Test.YtiebgcahdnaekaaDoorJd
import Derived.Test.YtiebgcahdnaekaaDoorJe
import Derived.Test.YtiebgcahdnaekaaDoorProg
import Derived.KernelRfl
namespace Go.Proofs.YtiebgcahdnaekaaDoor
open Go.RowKit

theorem tsh3 : tshape Tryd.prog 3 = some (false, 1) := by kernel_rfl
theorem tze3 : tzero Tryd.prog 3 = some [(Value.int IntKind.i64 0)] := by kernel_rfl
theorem tby3 : Tryd.prog.bytesOf 3 = 8 := by kernel_rfl
theorem tsh4 : tshape Tryd.prog 4 = some (false, 1) := by kernel_rfl
theorem tze4 : tzero Tryd.prog 4 = some [(Value.bool false)] := by kernel_rfl
theorem tby4 : Tryd.prog.bytesOf 4 = 1 := by kernel_rfl
theorem tsh5 : tshape Tryd.prog 5 = some (false, 1) := by kernel_rfl
theorem tze5 : tzero Tryd.prog 5 = some [(Value.int IntKind.u8 0)] := by kernel_rfl
theorem tby5 : Tryd.prog.bytesOf 5 = 1 := by kernel_rfl
theorem tsh22 : tshape Tryd.prog 22 = some (false, 1) := by kernel_rfl
theorem tze22 : tzero Tryd.prog 22 = some [(Value.slice none 0 0)] := by kernel_rfl
theorem tsl22 : tslice Tryd.prog 22 = some (3, 1) := by kernel_rfl
theorem tby22 : Tryd.prog.bytesOf 22 = 24 := by kernel_rfl
theorem tsh24 : tshape Tryd.prog 24 = some (true, 15) := by kernel_rfl
theorem tze24 : tzero Tryd.prog 24 = some [(Value.int IntKind.i64 0), (Value.int IntKind.i64 0), (Value.int IntKind.i64 0), (Value.int IntKind.i64 0), (Value.int IntKind.i64 0), (Value.int IntKind.i64 0), (Value.int IntKind.i64 0), (Value.int IntKind.i64 0), (Value.int IntKind.i64 0), (Value.int IntKind.i64 0), (Value.int IntKind.i64 0), (Value.int IntKind.i64 0), (Value.int IntKind.i64 0), (Value.bool false), (Value.slice none 0 0)] := by kernel_rfl
theorem tby24 : Tryd.prog.bytesOf 24 = 136 := by kernel_rfl
theorem tsh25 : tshape Tryd.prog 25 = some (false, 1) := by kernel_rfl
theorem tze25 : tzero Tryd.prog 25 = some [(Value.slice none 0 0)] := by kernel_rfl
theorem tsl25 : tslice Tryd.prog 25 = some (43, 4) := by kernel_rfl
theorem tby25 : Tryd.prog.bytesOf 25 = 24 := by kernel_rfl
theorem tsh26 : tshape Tryd.prog 26 = some (false, 1) := by kernel_rfl
theorem tze26 : tzero Tryd.prog 26 = some [(Value.slice none 0 0)] := by kernel_rfl
theorem tsl26 : tslice Tryd.prog 26 = some (38, 8) := by kernel_rfl
theorem tby26 : Tryd.prog.bytesOf 26 = 24 := by kernel_rfl
theorem tsh28 : tshape Tryd.prog 28 = some (true, 7) := by kernel_rfl
theorem tze28 : tzero Tryd.prog 28 = some [(Value.int IntKind.u8 0), (Value.int IntKind.i64 0), (Value.int IntKind.i64 0), (Value.int IntKind.i64 0), (Value.bool false), (Value.int IntKind.i64 0), (Value.int IntKind.i64 0)] := by kernel_rfl
theorem tby28 : Tryd.prog.bytesOf 28 = 56 := by kernel_rfl
theorem tsh30 : tshape Tryd.prog 30 = some (true, 27) := by kernel_rfl
theorem tze30 : tzero Tryd.prog 30 = some [(Value.int IntKind.i64 0), (Value.int IntKind.i64 0), (Value.bool false), (Value.int IntKind.i64 0), (Value.int IntKind.i64 0), (Value.int IntKind.i64 0), (Value.int IntKind.i64 0), (Value.int IntKind.i64 0), (Value.int IntKind.i64 0), (Value.int IntKind.i64 0), (Value.int IntKind.i64 0), (Value.int IntKind.i64 0), (Value.int IntKind.i64 0), (Value.int IntKind.i64 0), (Value.int IntKind.i64 0), (Value.int IntKind.i64 0), (Value.bool false), (Value.slice none 0 0), (Value.slice none 0 0), (Value.slice none 0 0), (Value.int IntKind.u8 0), (Value.int IntKind.i64 0), (Value.int IntKind.i64 0), (Value.int IntKind.i64 0), (Value.bool false), (Value.int IntKind.i64 0), (Value.int IntKind.i64 0)] := by kernel_rfl
theorem tby30 : Tryd.prog.bytesOf 30 = 264 := by kernel_rfl
theorem tsh34 : tshape Tryd.prog 34 = some (true, 9) := by kernel_rfl
theorem tze34 : tzero Tryd.prog 34 = some [(Value.int IntKind.i64 0), (Value.int IntKind.i64 0), (Value.int IntKind.i64 0), (Value.int IntKind.i64 0), (Value.int IntKind.i64 0), (Value.int IntKind.i64 0), (Value.int IntKind.i64 0), (Value.int IntKind.i64 0), (Value.int IntKind.i64 0)] := by kernel_rfl
theorem tby34 : Tryd.prog.bytesOf 34 = 72 := by kernel_rfl
theorem tsh38 : tshape Tryd.prog 38 = some (true, 8) := by kernel_rfl
theorem tze38 : tzero Tryd.prog 38 = some [(Value.int IntKind.i64 0), (Value.int IntKind.i64 0), (Value.int IntKind.i64 0), (Value.int IntKind.i64 0), (Value.int IntKind.u8 0), (Value.int IntKind.i64 0), (Value.bool false), (Value.bool false)] := by kernel_rfl
theorem tby38 : Tryd.prog.bytesOf 38 = 56 := by kernel_rfl
theorem tsh43 : tshape Tryd.prog 43 = some (true, 4) := by kernel_rfl
theorem tze43 : tzero Tryd.prog 43 = some [(Value.int IntKind.i64 0), (Value.int IntKind.i64 0), (Value.int IntKind.i64 0), (Value.bool false)] := by kernel_rfl
theorem tby43 : Tryd.prog.bytesOf 43 = 32 := by kernel_rfl
theorem tsh46 : tshape Tryd.prog 46 = some (true, 2) := by kernel_rfl
theorem tze46 : tzero Tryd.prog 46 = some [(Value.int IntKind.u8 0), (Value.slice none 0 0)] := by kernel_rfl
theorem tby46 : Tryd.prog.bytesOf 46 = 32 := by kernel_rfl
theorem tsh53 : tshape Tryd.prog 53 = some (false, 1) := by kernel_rfl
theorem tze53 : tzero Tryd.prog 53 = some [(Value.pointer none)] := by kernel_rfl
theorem tby53 : Tryd.prog.bytesOf 53 = 8 := by kernel_rfl
theorem tsh55 : tshape Tryd.prog 55 = some (true, 5) := by kernel_rfl
theorem tze55 : tzero Tryd.prog 55 = some [(Value.int IntKind.i64 0), (Value.bool false), (Value.bool false), (Value.bool false), (Value.bool false)] := by kernel_rfl
theorem tby55 : Tryd.prog.bytesOf 55 = 16 := by kernel_rfl
theorem tsh56 : tshape Tryd.prog 56 = some (false, 1) := by kernel_rfl
theorem tze56 : tzero Tryd.prog 56 = some [Value.nilFunc] := by kernel_rfl
theorem tby56 : Tryd.prog.bytesOf 56 = 8 := by kernel_rfl
theorem tsh57 : tshape Tryd.prog 57 = some (true, 2) := by kernel_rfl
theorem tze57 : tzero Tryd.prog 57 = some [(Value.pointer none), Value.nilFunc] := by kernel_rfl
theorem tby57 : Tryd.prog.bytesOf 57 = 16 := by kernel_rfl
theorem tsh58 : tshape Tryd.prog 58 = some (true, 10) := by kernel_rfl
theorem tze58 : tzero Tryd.prog 58 = some [(Value.pointer none), Value.nilFunc, (Value.pointer none), Value.nilFunc, (Value.pointer none), Value.nilFunc, (Value.pointer none), Value.nilFunc, (Value.pointer none), Value.nilFunc] := by kernel_rfl
theorem tar58 : tarray Tryd.prog 58 = some (5, 57, 2) := by kernel_rfl
theorem tby58 : Tryd.prog.bytesOf 58 = 80 := by kernel_rfl
theorem tsh69 : tshape Tryd.prog 69 = some (true, 5) := by kernel_rfl
theorem tze69 : tzero Tryd.prog 69 = some [(Value.int IntKind.i64 0), (Value.int IntKind.i64 0), (Value.int IntKind.i64 0), (Value.int IntKind.i64 0), (Value.int IntKind.i64 0)] := by kernel_rfl
theorem tar69 : tarray Tryd.prog 69 = some (5, 3, 1) := by kernel_rfl
theorem tby69 : Tryd.prog.bytesOf 69 = 40 := by kernel_rfl
theorem tsh76 : tshape Tryd.prog 76 = some (false, 1) := by kernel_rfl
theorem tze76 : tzero Tryd.prog 76 = some [(Value.pointer none)] := by kernel_rfl
theorem tby76 : Tryd.prog.bytesOf 76 = 8 := by kernel_rfl
theorem tsh79 : tshape Tryd.prog 79 = some (true, 2) := by kernel_rfl
theorem tze79 : tzero Tryd.prog 79 = some [(Value.int IntKind.i64 0), (Value.int IntKind.i64 0)] := by kernel_rfl
theorem tby79 : Tryd.prog.bytesOf 79 = 16 := by kernel_rfl
theorem tsh80 : tshape Tryd.prog 80 = some (true, 26) := by kernel_rfl
theorem tze80 : tzero Tryd.prog 80 = some [(Value.int IntKind.i64 0), (Value.int IntKind.i64 0), (Value.int IntKind.i64 0), (Value.int IntKind.i64 0), (Value.int IntKind.i64 0), (Value.int IntKind.i64 0), (Value.int IntKind.i64 0), (Value.int IntKind.i64 0), (Value.int IntKind.i64 0), (Value.int IntKind.i64 0), (Value.int IntKind.i64 0), (Value.int IntKind.i64 0), (Value.int IntKind.i64 0), (Value.int IntKind.i64 0), (Value.int IntKind.i64 0), (Value.int IntKind.i64 0), (Value.int IntKind.i64 0), (Value.int IntKind.i64 0), (Value.int IntKind.i64 0), (Value.int IntKind.i64 0), (Value.int IntKind.i64 0), (Value.int IntKind.i64 0), (Value.int IntKind.i64 0), (Value.int IntKind.i64 0), (Value.int IntKind.i64 0), (Value.int IntKind.i64 0)] := by kernel_rfl
theorem tar80 : tarray Tryd.prog 80 = some (13, 79, 2) := by kernel_rfl
theorem tby80 : Tryd.prog.bytesOf 80 = 208 := by kernel_rfl
theorem tsh82 : tshape Tryd.prog 82 = some (true, 13) := by kernel_rfl
theorem tze82 : tzero Tryd.prog 82 = some [(Value.pointer none), (Value.pointer none), (Value.pointer none), (Value.pointer none), (Value.pointer none), (Value.pointer none), (Value.pointer none), (Value.pointer none), (Value.pointer none), (Value.pointer none), (Value.pointer none), (Value.pointer none), (Value.pointer none)] := by kernel_rfl
theorem tar82 : tarray Tryd.prog 82 = some (13, 53, 1) := by kernel_rfl
theorem tby82 : Tryd.prog.bytesOf 82 = 104 := by kernel_rfl
theorem tfl24_0 : tfield Tryd.prog 24 0 = some (0, 1) := by kernel_rfl
theorem tfl24_1 : tfield Tryd.prog 24 1 = some (1, 1) := by kernel_rfl
theorem tfl24_2 : tfield Tryd.prog 24 2 = some (2, 1) := by kernel_rfl
theorem tfl24_3 : tfield Tryd.prog 24 3 = some (3, 1) := by kernel_rfl
theorem tfl24_4 : tfield Tryd.prog 24 4 = some (4, 1) := by kernel_rfl
theorem tfl24_5 : tfield Tryd.prog 24 5 = some (5, 1) := by kernel_rfl
theorem tfl24_6 : tfield Tryd.prog 24 6 = some (6, 1) := by kernel_rfl
theorem tfl24_7 : tfield Tryd.prog 24 7 = some (7, 1) := by kernel_rfl
theorem tfl24_8 : tfield Tryd.prog 24 8 = some (8, 1) := by kernel_rfl
theorem tfl24_9 : tfield Tryd.prog 24 9 = some (9, 1) := by kernel_rfl
theorem tfl24_10 : tfield Tryd.prog 24 10 = some (10, 1) := by kernel_rfl
theorem tfl24_11 : tfield Tryd.prog 24 11 = some (11, 1) := by kernel_rfl
theorem tfl24_12 : tfield Tryd.prog 24 12 = some (12, 1) := by kernel_rfl
theorem tfl24_13 : tfield Tryd.prog 24 13 = some (13, 1) := by kernel_rfl
theorem tfl24_14 : tfield Tryd.prog 24 14 = some (14, 1) := by kernel_rfl
theorem tfl28_0 : tfield Tryd.prog 28 0 = some (0, 1) := by kernel_rfl
theorem tfl28_1 : tfield Tryd.prog 28 1 = some (1, 1) := by kernel_rfl
theorem tfl28_2 : tfield Tryd.prog 28 2 = some (2, 1) := by kernel_rfl
theorem tfl28_3 : tfield Tryd.prog 28 3 = some (3, 1) := by kernel_rfl
theorem tfl28_4 : tfield Tryd.prog 28 4 = some (4, 1) := by kernel_rfl
theorem tfl28_5 : tfield Tryd.prog 28 5 = some (5, 1) := by kernel_rfl
theorem tfl28_6 : tfield Tryd.prog 28 6 = some (6, 1) := by kernel_rfl
theorem tfl30_0 : tfield Tryd.prog 30 0 = some (0, 1) := by kernel_rfl
theorem tfl30_1 : tfield Tryd.prog 30 1 = some (1, 1) := by kernel_rfl
theorem tfl30_2 : tfield Tryd.prog 30 2 = some (2, 1) := by kernel_rfl
theorem tfl30_3 : tfield Tryd.prog 30 3 = some (3, 15) := by kernel_rfl
theorem tfl30_4 : tfield Tryd.prog 30 4 = some (18, 1) := by kernel_rfl
theorem tfl30_5 : tfield Tryd.prog 30 5 = some (19, 1) := by kernel_rfl
theorem tfl30_6 : tfield Tryd.prog 30 6 = some (20, 7) := by kernel_rfl
theorem tfl34_0 : tfield Tryd.prog 34 0 = some (0, 1) := by kernel_rfl
theorem tfl34_1 : tfield Tryd.prog 34 1 = some (1, 1) := by kernel_rfl
theorem tfl34_2 : tfield Tryd.prog 34 2 = some (2, 1) := by kernel_rfl
theorem tfl34_3 : tfield Tryd.prog 34 3 = some (3, 1) := by kernel_rfl
theorem tfl34_4 : tfield Tryd.prog 34 4 = some (4, 1) := by kernel_rfl
theorem tfl34_5 : tfield Tryd.prog 34 5 = some (5, 1) := by kernel_rfl
theorem tfl34_6 : tfield Tryd.prog 34 6 = some (6, 1) := by kernel_rfl
theorem tfl34_7 : tfield Tryd.prog 34 7 = some (7, 1) := by kernel_rfl
theorem tfl34_8 : tfield Tryd.prog 34 8 = some (8, 1) := by kernel_rfl
theorem tfl38_0 : tfield Tryd.prog 38 0 = some (0, 1) := by kernel_rfl
theorem tfl38_2 : tfield Tryd.prog 38 2 = some (2, 1) := by kernel_rfl
theorem tfl38_3 : tfield Tryd.prog 38 3 = some (3, 1) := by kernel_rfl
theorem tfl38_4 : tfield Tryd.prog 38 4 = some (4, 1) := by kernel_rfl
theorem tfl38_5 : tfield Tryd.prog 38 5 = some (5, 1) := by kernel_rfl
theorem tfl38_6 : tfield Tryd.prog 38 6 = some (6, 1) := by kernel_rfl
theorem tfl38_7 : tfield Tryd.prog 38 7 = some (7, 1) := by kernel_rfl
theorem tfl43_0 : tfield Tryd.prog 43 0 = some (0, 1) := by kernel_rfl
theorem tfl43_1 : tfield Tryd.prog 43 1 = some (1, 1) := by kernel_rfl
theorem tfl43_2 : tfield Tryd.prog 43 2 = some (2, 1) := by kernel_rfl
theorem tfl43_3 : tfield Tryd.prog 43 3 = some (3, 1) := by kernel_rfl
theorem tfl46_0 : tfield Tryd.prog 46 0 = some (0, 1) := by kernel_rfl
theorem tfl46_1 : tfield Tryd.prog 46 1 = some (1, 1) := by kernel_rfl
theorem tfl55_0 : tfield Tryd.prog 55 0 = some (0, 1) := by kernel_rfl
theorem tfl55_1 : tfield Tryd.prog 55 1 = some (1, 1) := by kernel_rfl
theorem tfl55_2 : tfield Tryd.prog 55 2 = some (2, 1) := by kernel_rfl
theorem tfl55_3 : tfield Tryd.prog 55 3 = some (3, 1) := by kernel_rfl
theorem tfl55_4 : tfield Tryd.prog 55 4 = some (4, 1) := by kernel_rfl
theorem tfl57_0 : tfield Tryd.prog 57 0 = some (0, 1) := by kernel_rfl
theorem tfl57_1 : tfield Tryd.prog 57 1 = some (1, 1) := by kernel_rfl
theorem tfl79_0 : tfield Tryd.prog 79 0 = some (0, 1) := by kernel_rfl
theorem tfl79_1 : tfield Tryd.prog 79 1 = some (1, 1) := by kernel_rfl
theorem tpl24_ : tplaces Tryd.prog 24 [] = some [] := by kernel_rfl
theorem tpl24_0_1_2_3_4_5_6_7_8_9_10_11_12_13 : tplaces Tryd.prog 24 [0, 1, 2, 3, 4, 5, 6, 7, 8, 9, 10, 11, 12, 13] = some [(0, 1), (1, 1), (2, 1), (3, 1), (4, 1), (5, 1), (6, 1), (7, 1), (8, 1), (9, 1), (10, 1), (11, 1), (12, 1), (13, 1)] := by kernel_rfl
theorem tpl24_0_1_2_8_9_10_12 : tplaces Tryd.prog 24 [0, 1, 2, 8, 9, 10, 12] = some [(0, 1), (1, 1), (2, 1), (8, 1), (9, 1), (10, 1), (12, 1)] := by kernel_rfl
theorem tpl28_0_1_2 : tplaces Tryd.prog 28 [0, 1, 2] = some [(0, 1), (1, 1), (2, 1)] := by kernel_rfl
theorem tpl28_0_1_2_5 : tplaces Tryd.prog 28 [0, 1, 2, 5] = some [(0, 1), (1, 1), (2, 1), (5, 1)] := by kernel_rfl
theorem tpl30_ : tplaces Tryd.prog 30 [] = some [] := by kernel_rfl
theorem tpl30_2_3 : tplaces Tryd.prog 30 [2, 3] = some [(2, 1), (3, 15)] := by kernel_rfl
theorem tpl34_ : tplaces Tryd.prog 34 [] = some [] := by kernel_rfl
theorem tpl34_0_1_2_4_5_6_7_8 : tplaces Tryd.prog 34 [0, 1, 2, 4, 5, 6, 7, 8] = some [(0, 1), (1, 1), (2, 1), (4, 1), (5, 1), (6, 1), (7, 1), (8, 1)] := by kernel_rfl
theorem tpl34_0_6_7_8 : tplaces Tryd.prog 34 [0, 6, 7, 8] = some [(0, 1), (6, 1), (7, 1), (8, 1)] := by kernel_rfl
theorem tpl38_0_1_2_3_4_5 : tplaces Tryd.prog 38 [0, 1, 2, 3, 4, 5] = some [(0, 1), (1, 1), (2, 1), (3, 1), (4, 1), (5, 1)] := by kernel_rfl
theorem tpl38_0_2_4 : tplaces Tryd.prog 38 [0, 2, 4] = some [(0, 1), (2, 1), (4, 1)] := by kernel_rfl
theorem tpl38_0_2_4_3 : tplaces Tryd.prog 38 [0, 2, 4, 3] = some [(0, 1), (2, 1), (4, 1), (3, 1)] := by kernel_rfl
theorem tpl43_0_1_2_3 : tplaces Tryd.prog 43 [0, 1, 2, 3] = some [(0, 1), (1, 1), (2, 1), (3, 1)] := by kernel_rfl
theorem tpl43_1 : tplaces Tryd.prog 43 [1] = some [(1, 1)] := by kernel_rfl
theorem tpl46_0 : tplaces Tryd.prog 46 [0] = some [(0, 1)] := by kernel_rfl
theorem tpl46_0_1 : tplaces Tryd.prog 46 [0, 1] = some [(0, 1), (1, 1)] := by kernel_rfl
theorem tpl55_0_1_2_3 : tplaces Tryd.prog 55 [0, 1, 2, 3] = some [(0, 1), (1, 1), (2, 1), (3, 1)] := by kernel_rfl
theorem tpl55_0_1_2_3_4 : tplaces Tryd.prog 55 [0, 1, 2, 3, 4] = some [(0, 1), (1, 1), (2, 1), (3, 1), (4, 1)] := by kernel_rfl
theorem tpl57_0_1 : tplaces Tryd.prog 57 [0, 1] = some [(0, 1), (1, 1)] := by kernel_rfl
theorem tpl58_0_1_2_3_4 : tplaces Tryd.prog 58 [0, 1, 2, 3, 4] = some [(0, 2), (2, 2), (4, 2), (6, 2), (8, 2)] := by kernel_rfl
theorem tpl69_0_1_2_3_4 : tplaces Tryd.prog 69 [0, 1, 2, 3, 4] = some [(0, 1), (1, 1), (2, 1), (3, 1), (4, 1)] := by kernel_rfl
theorem tpl79_0_1 : tplaces Tryd.prog 79 [0, 1] = some [(0, 1), (1, 1)] := by kernel_rfl
theorem tpl80_0_1_2_3_4_5_6_7_8_9_10_11_12 : tplaces Tryd.prog 80 [0, 1, 2, 3, 4, 5, 6, 7, 8, 9, 10, 11, 12] = some [(0, 2), (2, 2), (4, 2), (6, 2), (8, 2), (10, 2), (12, 2), (14, 2), (16, 2), (18, 2), (20, 2), (22, 2), (24, 2)] := by kernel_rfl
theorem tpl82_0_1_2_3_4_5_6_7_8_9_10_11_12 : tplaces Tryd.prog 82 [0, 1, 2, 3, 4, 5, 6, 7, 8, 9, 10, 11, 12] = some [(0, 1), (1, 1), (2, 1), (3, 1), (4, 1), (5, 1), (6, 1), (7, 1), (8, 1), (9, 1), (10, 1), (11, 1), (12, 1)] := by kernel_rfl
theorem tzr22_0 : zrow Tryd.prog 22 0 = some [] := by kernel_rfl
theorem tzr22_1 : zrow Tryd.prog 22 1 = some [(Value.int IntKind.i64 0)] := by kernel_rfl
theorem tzr22_2 : zrow Tryd.prog 22 2 = some [(Value.int IntKind.i64 0), (Value.int IntKind.i64 0)] := by kernel_rfl
theorem tzr22_3 : zrow Tryd.prog 22 3 = some [(Value.int IntKind.i64 0), (Value.int IntKind.i64 0), (Value.int IntKind.i64 0)] := by kernel_rfl
theorem tzr25_0 : zrow Tryd.prog 25 0 = some [] := by kernel_rfl
theorem tzr25_1 : zrow Tryd.prog 25 1 = some [(Value.int IntKind.i64 0), (Value.int IntKind.i64 0), (Value.int IntKind.i64 0), (Value.bool false)] := by kernel_rfl
theorem tzr26_0 : zrow Tryd.prog 26 0 = some [] := by kernel_rfl
theorem tzr26_1 : zrow Tryd.prog 26 1 = some [(Value.int IntKind.i64 0), (Value.int IntKind.i64 0), (Value.int IntKind.i64 0), (Value.int IntKind.i64 0), (Value.int IntKind.u8 0), (Value.int IntKind.i64 0), (Value.bool false), (Value.bool false)] := by kernel_rfl
theorem tzr26_2 : zrow Tryd.prog 26 2 = some [(Value.int IntKind.i64 0), (Value.int IntKind.i64 0), (Value.int IntKind.i64 0), (Value.int IntKind.i64 0), (Value.int IntKind.u8 0), (Value.int IntKind.i64 0), (Value.bool false), (Value.bool false), (Value.int IntKind.i64 0), (Value.int IntKind.i64 0), (Value.int IntKind.i64 0), (Value.int IntKind.i64 0), (Value.int IntKind.u8 0), (Value.int IntKind.i64 0), (Value.bool false), (Value.bool false)] := by kernel_rfl
theorem teq34 : teq Tryd.prog 34 = some [true, true, true, true, true, true, true, true, true] := by kernel_rfl
theorem en7 : ∀ args w, (callFunc 7 args).run Tryd.prog w = .ok (.enter 7 args) w := enters_fn Tryd.func7 (by kernel_rfl) rfl
theorem en8 : ∀ args w, (callFunc 8 args).run Tryd.prog w = .ok (.enter 8 args) w := enters_fn Tryd.func8 (by kernel_rfl) rfl
theorem en9 : ∀ args w, (callFunc 9 args).run Tryd.prog w = .ok (.enter 9 args) w := enters_fn Tryd.func9 (by kernel_rfl) rfl
theorem en10 : ∀ args w, (callFunc 10 args).run Tryd.prog w = .ok (.enter 10 args) w := enters_fn Tryd.func10 (by kernel_rfl) rfl
theorem en11 : ∀ args w, (callFunc 11 args).run Tryd.prog w = .ok (.enter 11 args) w := enters_fn Tryd.func11 (by kernel_rfl) rfl
theorem en12 : ∀ args w, (callFunc 12 args).run Tryd.prog w = .ok (.enter 12 args) w := enters_fn Tryd.func12 (by kernel_rfl) rfl
theorem en13 : ∀ args w, (callFunc 13 args).run Tryd.prog w = .ok (.enter 13 args) w := enters_fn Tryd.func13 (by kernel_rfl) rfl
theorem en14 : ∀ args w, (callFunc 14 args).run Tryd.prog w = .ok (.enter 14 args) w := enters_fn Tryd.func14 (by kernel_rfl) rfl
theorem en15 : ∀ args w, (callFunc 15 args).run Tryd.prog w = .ok (.enter 15 args) w := enters_fn Tryd.func15 (by kernel_rfl) rfl
theorem en16 : ∀ args w, (callFunc 16 args).run Tryd.prog w = .ok (.enter 16 args) w := enters_fn Tryd.func16 (by kernel_rfl) rfl
theorem en17 : ∀ args w, (callFunc 17 args).run Tryd.prog w = .ok (.enter 17 args) w := enters_fn Tryd.func17 (by kernel_rfl) rfl
theorem en18 : ∀ args w, (callFunc 18 args).run Tryd.prog w = .ok (.enter 18 args) w := enters_fn Tryd.func18 (by kernel_rfl) rfl
theorem en19 : ∀ args w, (callFunc 19 args).run Tryd.prog w = .ok (.enter 19 args) w := enters_fn Tryd.func19 (by kernel_rfl) rfl
theorem en20 : ∀ args w, (callFunc 20 args).run Tryd.prog w = .ok (.enter 20 args) w := enters_fn Tryd.func20 (by kernel_rfl) rfl
theorem en21 : ∀ args w, (callFunc 21 args).run Tryd.prog w = .ok (.enter 21 args) w := enters_fn Tryd.func21 (by kernel_rfl) rfl
theorem en22 : ∀ args w, (callFunc 22 args).run Tryd.prog w = .ok (.enter 22 args) w := enters_fn Tryd.func22 (by kernel_rfl) rfl
theorem en23 : ∀ args w, (callFunc 23 args).run Tryd.prog w = .ok (.enter 23 args) w := enters_fn Tryd.func23 (by kernel_rfl) rfl
theorem en24 : ∀ args w, (callFunc 24 args).run Tryd.prog w = .ok (.enter 24 args) w := enters_fn Tryd.func24 (by kernel_rfl) rfl
theorem en25 : ∀ args w, (callFunc 25 args).run Tryd.prog w = .ok (.enter 25 args) w := enters_fn Tryd.func25 (by kernel_rfl) rfl
theorem en26 : ∀ args w, (callFunc 26 args).run Tryd.prog w = .ok (.enter 26 args) w := enters_fn Tryd.func26 (by kernel_rfl) rfl
theorem en27 : ∀ args w, (callFunc 27 args).run Tryd.prog w = .ok (.enter 27 args) w := enters_fn Tryd.func27 (by kernel_rfl) rfl
theorem en28 : ∀ args w, (callFunc 28 args).run Tryd.prog w = .ok (.enter 28 args) w := enters_fn Tryd.func28 (by kernel_rfl) rfl
theorem en29 : ∀ args w, (callFunc 29 args).run Tryd.prog w = .ok (.enter 29 args) w := enters_fn Tryd.func29 (by kernel_rfl) rfl
theorem en30 : ∀ args w, (callFunc 30 args).run Tryd.prog w = .ok (.enter 30 args) w := enters_fn Tryd.func30 (by kernel_rfl) rfl
theorem en31 : ∀ args w, (callFunc 31 args).run Tryd.prog w = .ok (.enter 31 args) w := enters_fn Tryd.func31 (by kernel_rfl) rfl
theorem en32 : ∀ args w, (callFunc 32 args).run Tryd.prog w = .ok (.enter 32 args) w := enters_fn Tryd.func32 (by kernel_rfl) rfl
theorem en33 : ∀ args w, (callFunc 33 args).run Tryd.prog w = .ok (.enter 33 args) w := enters_fn Tryd.func33 (by kernel_rfl) rfl
theorem en34 : ∀ args w, (callFunc 34 args).run Tryd.prog w = .ok (.enter 34 args) w := enters_fn Tryd.func34 (by kernel_rfl) rfl
theorem en35 : ∀ args w, (callFunc 35 args).run Tryd.prog w = .ok (.enter 35 args) w := enters_fn Tryd.func35 (by kernel_rfl) rfl
theorem en36 : ∀ args w, (callFunc 36 args).run Tryd.prog w = .ok (.enter 36 args) w := enters_fn Tryd.func36 (by kernel_rfl) rfl
theorem en37 : ∀ args w, (callFunc 37 args).run Tryd.prog w = .ok (.enter 37 args) w := enters_fn Tryd.func37 (by kernel_rfl) rfl
theorem en38 : ∀ args w, (callFunc 38 args).run Tryd.prog w = .ok (.enter 38 args) w := enters_fn Tryd.func38 (by kernel_rfl) rfl
theorem en39 : ∀ args w, (callFunc 39 args).run Tryd.prog w = .ok (.enter 39 args) w := enters_fn Tryd.func39 (by kernel_rfl) rfl
theorem en40 : ∀ args w, (callFunc 40 args).run Tryd.prog w = .ok (.enter 40 args) w := enters_fn Tryd.func40 (by kernel_rfl) rfl
theorem en41 : ∀ args w, (callFunc 41 args).run Tryd.prog w = .ok (.enter 41 args) w := enters_fn Tryd.func41 (by kernel_rfl) rfl
theorem en42 : ∀ args w, (callFunc 42 args).run Tryd.prog w = .ok (.enter 42 args) w := enters_fn Tryd.func42 (by kernel_rfl) rfl
theorem en43 : ∀ args w, (callFunc 43 args).run Tryd.prog w = .ok (.enter 43 args) w := enters_fn Tryd.func43 (by kernel_rfl) rfl
theorem en44 : ∀ args w, (callFunc 44 args).run Tryd.prog w = .ok (.enter 44 args) w := enters_fn Tryd.func44 (by kernel_rfl) rfl
theorem en45 : ∀ args w, (callFunc 45 args).run Tryd.prog w = .ok (.enter 45 args) w := enters_fn Tryd.func45 (by kernel_rfl) rfl
theorem en46 : ∀ args w, (callFunc 46 args).run Tryd.prog w = .ok (.enter 46 args) w := enters_fn Tryd.func46 (by kernel_rfl) rfl
theorem en47 : ∀ args w, (callFunc 47 args).run Tryd.prog w = .ok (.enter 47 args) w := enters_fn Tryd.func47 (by kernel_rfl) rfl
theorem en48 : ∀ args w, (callFunc 48 args).run Tryd.prog w = .ok (.enter 48 args) w := enters_fn Tryd.func48 (by kernel_rfl) rfl
theorem en49 : ∀ args w, (callFunc 49 args).run Tryd.prog w = .ok (.enter 49 args) w := enters_fn Tryd.func49 (by kernel_rfl) rfl
theorem tmx : Tryd.prog.follows .mixedOrders = true := by kernel_rfl

end Go.Proofs.YtiebgcahdnaekaaDoor
