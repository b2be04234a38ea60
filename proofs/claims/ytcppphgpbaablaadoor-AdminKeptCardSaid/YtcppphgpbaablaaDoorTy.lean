/-
The tables of the program: its types, by number, and that its functions are entered. PRINTED BY jw.py.
Conditions: none.
-/
import Derived.Test.YtcppphgpbaablaaDoorJs
import Derived.Test.YtcppphgpbaablaaDoorJd
import Derived.Test.YtcppphgpbaablaaDoorJe
import Derived.Test.YtcppphgpbaablaaDoorProg
import Derived.KernelRfl
namespace Go.Proofs.YtcppphgpbaablaaDoor
open Go.RowKit

theorem tsh3 : tshape Tryd.prog 3 = some (false, 1) := by kernel_rfl
theorem tze3 : tzero Tryd.prog 3 = some [(Value.int IntKind.i64 0)] := by kernel_rfl
theorem tby3 : Tryd.prog.bytesOf 3 = 8 := by kernel_rfl
theorem tsh4 : tshape Tryd.prog 4 = some (false, 1) := by kernel_rfl
theorem tze4 : tzero Tryd.prog 4 = some [(Value.bool false)] := by kernel_rfl
theorem tby4 : Tryd.prog.bytesOf 4 = 1 := by kernel_rfl
theorem tsh5 : tshape Tryd.prog 5 = some (false, 1) := by kernel_rfl
theorem tze5 : tzero Tryd.prog 5 = some [(Value.int IntKind.u8 0)] := by kernel_rfl
theorem tby5 : Tryd.prog.bytesOf 5 = 1 := by kernel_rfl
theorem tsh9 : tshape Tryd.prog 9 = some (false, 1) := by kernel_rfl
theorem tze9 : tzero Tryd.prog 9 = some [(Value.string { data := #[] })] := by kernel_rfl
theorem tby9 : Tryd.prog.bytesOf 9 = 16 := by kernel_rfl
theorem tsh22 : tshape Tryd.prog 22 = some (false, 1) := by kernel_rfl
theorem tze22 : tzero Tryd.prog 22 = some [(Value.slice none 0 0)] := by kernel_rfl
theorem tsl22 : tslice Tryd.prog 22 = some (3, 1) := by kernel_rfl
theorem tby22 : Tryd.prog.bytesOf 22 = 24 := by kernel_rfl
theorem tsh24 : tshape Tryd.prog 24 = some (true, 15) := by kernel_rfl
theorem tze24 : tzero Tryd.prog 24 = some [(Value.int IntKind.i64 0), (Value.int IntKind.i64 0), (Value.int IntKind.i64 0), (Value.int IntKind.i64 0), (Value.int IntKind.i64 0), (Value.int IntKind.i64 0), (Value.int IntKind.i64 0), (Value.int IntKind.i64 0), (Value.int IntKind.i64 0), (Value.int IntKind.i64 0), (Value.int IntKind.i64 0), (Value.int IntKind.i64 0), (Value.int IntKind.i64 0), (Value.bool false), (Value.slice none 0 0)] := by kernel_rfl
theorem tby24 : Tryd.prog.bytesOf 24 = 136 := by kernel_rfl
theorem tsh25 : tshape Tryd.prog 25 = some (false, 1) := by kernel_rfl
theorem tze25 : tzero Tryd.prog 25 = some [(Value.slice none 0 0)] := by kernel_rfl
theorem tsl25 : tslice Tryd.prog 25 = some (48, 4) := by kernel_rfl
theorem tby25 : Tryd.prog.bytesOf 25 = 24 := by kernel_rfl
theorem tsh26 : tshape Tryd.prog 26 = some (false, 1) := by kernel_rfl
theorem tze26 : tzero Tryd.prog 26 = some [(Value.slice none 0 0)] := by kernel_rfl
theorem tsl26 : tslice Tryd.prog 26 = some (46, 8) := by kernel_rfl
theorem tby26 : Tryd.prog.bytesOf 26 = 24 := by kernel_rfl
theorem tsh28 : tshape Tryd.prog 28 = some (true, 7) := by kernel_rfl
theorem tze28 : tzero Tryd.prog 28 = some [(Value.int IntKind.u8 0), (Value.int IntKind.i64 0), (Value.int IntKind.i64 0), (Value.int IntKind.i64 0), (Value.bool false), (Value.int IntKind.i64 0), (Value.int IntKind.i64 0)] := by kernel_rfl
theorem tby28 : Tryd.prog.bytesOf 28 = 56 := by kernel_rfl
theorem tsh30 : tshape Tryd.prog 30 = some (true, 27) := by kernel_rfl
theorem tze30 : tzero Tryd.prog 30 = some [(Value.int IntKind.i64 0), (Value.int IntKind.i64 0), (Value.bool false), (Value.int IntKind.i64 0), (Value.int IntKind.i64 0), (Value.int IntKind.i64 0), (Value.int IntKind.i64 0), (Value.int IntKind.i64 0), (Value.int IntKind.i64 0), (Value.int IntKind.i64 0), (Value.int IntKind.i64 0), (Value.int IntKind.i64 0), (Value.int IntKind.i64 0), (Value.int IntKind.i64 0), (Value.int IntKind.i64 0), (Value.int IntKind.i64 0), (Value.bool false), (Value.slice none 0 0), (Value.slice none 0 0), (Value.slice none 0 0), (Value.int IntKind.u8 0), (Value.int IntKind.i64 0), (Value.int IntKind.i64 0), (Value.int IntKind.i64 0), (Value.bool false), (Value.int IntKind.i64 0), (Value.int IntKind.i64 0)] := by kernel_rfl
theorem tby30 : Tryd.prog.bytesOf 30 = 264 := by kernel_rfl
theorem tsh33 : tshape Tryd.prog 33 = some (false, 1) := by kernel_rfl
theorem tze33 : tzero Tryd.prog 33 = some [(Value.int IntKind.i64 0)] := by kernel_rfl
theorem tby33 : Tryd.prog.bytesOf 33 = 8 := by kernel_rfl
theorem tsh37 : tshape Tryd.prog 37 = some (true, 2) := by kernel_rfl
theorem tze37 : tzero Tryd.prog 37 = some [(Value.int IntKind.u8 0), (Value.slice none 0 0)] := by kernel_rfl
theorem tby37 : Tryd.prog.bytesOf 37 = 32 := by kernel_rfl
theorem tsh46 : tshape Tryd.prog 46 = some (true, 8) := by kernel_rfl
theorem tze46 : tzero Tryd.prog 46 = some [(Value.int IntKind.i64 0), (Value.int IntKind.i64 0), (Value.int IntKind.i64 0), (Value.int IntKind.i64 0), (Value.int IntKind.u8 0), (Value.int IntKind.i64 0), (Value.bool false), (Value.bool false)] := by kernel_rfl
theorem tby46 : Tryd.prog.bytesOf 46 = 56 := by kernel_rfl
theorem tsh48 : tshape Tryd.prog 48 = some (true, 4) := by kernel_rfl
theorem tze48 : tzero Tryd.prog 48 = some [(Value.int IntKind.i64 0), (Value.int IntKind.i64 0), (Value.int IntKind.i64 0), (Value.bool false)] := by kernel_rfl
theorem tby48 : Tryd.prog.bytesOf 48 = 32 := by kernel_rfl
theorem tsh49 : tshape Tryd.prog 49 = some (true, 2) := by kernel_rfl
theorem tze49 : tzero Tryd.prog 49 = some [(Value.int IntKind.u8 0), (Value.slice none 0 0)] := by kernel_rfl
theorem tby49 : Tryd.prog.bytesOf 49 = 32 := by kernel_rfl
theorem tsh59 : tshape Tryd.prog 59 = some (true, 5) := by kernel_rfl
theorem tze59 : tzero Tryd.prog 59 = some [(Value.int IntKind.i64 0), (Value.int IntKind.i64 0), (Value.int IntKind.i64 0), (Value.int IntKind.i64 0), (Value.int IntKind.i64 0)] := by kernel_rfl
theorem tar59 : tarray Tryd.prog 59 = some (5, 3, 1) := by kernel_rfl
theorem tby59 : Tryd.prog.bytesOf 59 = 40 := by kernel_rfl
theorem tsh61 : tshape Tryd.prog 61 = some (true, 13) := by kernel_rfl
theorem tze61 : tzero Tryd.prog 61 = some [(Value.int IntKind.i64 0), (Value.int IntKind.i64 0), (Value.int IntKind.i64 0), (Value.int IntKind.i64 0), (Value.int IntKind.i64 0), (Value.int IntKind.i64 0), (Value.int IntKind.i64 0), (Value.int IntKind.i64 0), (Value.int IntKind.i64 0), (Value.int IntKind.i64 0), (Value.int IntKind.i64 0), (Value.int IntKind.i64 0), (Value.int IntKind.i64 0)] := by kernel_rfl
theorem tar61 : tarray Tryd.prog 61 = some (13, 3, 1) := by kernel_rfl
theorem tby61 : Tryd.prog.bytesOf 61 = 104 := by kernel_rfl
theorem tsh64 : tshape Tryd.prog 64 = some (false, 1) := by kernel_rfl
theorem tze64 : tzero Tryd.prog 64 = some [(Value.map none)] := by kernel_rfl
theorem tby64 : Tryd.prog.bytesOf 64 = 8 := by kernel_rfl
theorem tsh67 : tshape Tryd.prog 67 = some (true, 29) := by kernel_rfl
theorem tze67 : tzero Tryd.prog 67 = some [(Value.int IntKind.i64 0), (Value.int IntKind.i64 0), (Value.bool false), (Value.int IntKind.i64 0), (Value.int IntKind.i64 0), (Value.int IntKind.i64 0), (Value.int IntKind.i64 0), (Value.int IntKind.i64 0), (Value.int IntKind.i64 0), (Value.int IntKind.i64 0), (Value.int IntKind.i64 0), (Value.int IntKind.i64 0), (Value.int IntKind.i64 0), (Value.int IntKind.i64 0), (Value.int IntKind.i64 0), (Value.int IntKind.i64 0), (Value.bool false), (Value.slice none 0 0), (Value.slice none 0 0), (Value.slice none 0 0), (Value.int IntKind.u8 0), (Value.int IntKind.i64 0), (Value.int IntKind.i64 0), (Value.int IntKind.i64 0), (Value.bool false), (Value.int IntKind.i64 0), (Value.int IntKind.i64 0), (Value.slice none 0 0), (Value.int IntKind.i64 0)] := by kernel_rfl
theorem tby67 : Tryd.prog.bytesOf 67 = 296 := by kernel_rfl
theorem tsh68 : tshape Tryd.prog 68 = some (true, 8) := by kernel_rfl
theorem tze68 : tzero Tryd.prog 68 = some [(Value.string { data := #[] }), (Value.string { data := #[] }), (Value.string { data := #[] }), (Value.string { data := #[] }), (Value.string { data := #[] }), (Value.string { data := #[] }), (Value.string { data := #[] }), (Value.string { data := #[] })] := by kernel_rfl
theorem tar68 : tarray Tryd.prog 68 = some (8, 9, 1) := by kernel_rfl
theorem tby68 : Tryd.prog.bytesOf 68 = 128 := by kernel_rfl
theorem tsh75 : tshape Tryd.prog 75 = some (false, 1) := by kernel_rfl
theorem tze75 : tzero Tryd.prog 75 = some [(Value.pointer none)] := by kernel_rfl
theorem tby75 : Tryd.prog.bytesOf 75 = 8 := by kernel_rfl
theorem tsh76 : tshape Tryd.prog 76 = some (false, 1) := by kernel_rfl
theorem tze76 : tzero Tryd.prog 76 = some [(Value.pointer none)] := by kernel_rfl
theorem tby76 : Tryd.prog.bytesOf 76 = 8 := by kernel_rfl
theorem tsh83 : tshape Tryd.prog 83 = some (true, 2) := by kernel_rfl
theorem tze83 : tzero Tryd.prog 83 = some [(Value.bool false), (Value.int IntKind.i64 0)] := by kernel_rfl
theorem tby83 : Tryd.prog.bytesOf 83 = 16 := by kernel_rfl
theorem tsh90 : tshape Tryd.prog 90 = some (false, 1) := by kernel_rfl
theorem tze90 : tzero Tryd.prog 90 = some [(Value.slice none 0 0)] := by kernel_rfl
theorem tsl90 : tslice Tryd.prog 90 = some (49, 2) := by kernel_rfl
theorem tby90 : Tryd.prog.bytesOf 90 = 24 := by kernel_rfl
theorem tsh95 : tshape Tryd.prog 95 = some (false, 1) := by kernel_rfl
theorem tze95 : tzero Tryd.prog 95 = some [(Value.pointer none)] := by kernel_rfl
theorem tby95 : Tryd.prog.bytesOf 95 = 8 := by kernel_rfl
theorem tsh98 : tshape Tryd.prog 98 = some (true, 2) := by kernel_rfl
theorem tze98 : tzero Tryd.prog 98 = some [(Value.int IntKind.i64 0), (Value.int IntKind.i64 0)] := by kernel_rfl
theorem tby98 : Tryd.prog.bytesOf 98 = 16 := by kernel_rfl
theorem tsh99 : tshape Tryd.prog 99 = some (true, 26) := by kernel_rfl
theorem tze99 : tzero Tryd.prog 99 = some [(Value.int IntKind.i64 0), (Value.int IntKind.i64 0), (Value.int IntKind.i64 0), (Value.int IntKind.i64 0), (Value.int IntKind.i64 0), (Value.int IntKind.i64 0), (Value.int IntKind.i64 0), (Value.int IntKind.i64 0), (Value.int IntKind.i64 0), (Value.int IntKind.i64 0), (Value.int IntKind.i64 0), (Value.int IntKind.i64 0), (Value.int IntKind.i64 0), (Value.int IntKind.i64 0), (Value.int IntKind.i64 0), (Value.int IntKind.i64 0), (Value.int IntKind.i64 0), (Value.int IntKind.i64 0), (Value.int IntKind.i64 0), (Value.int IntKind.i64 0), (Value.int IntKind.i64 0), (Value.int IntKind.i64 0), (Value.int IntKind.i64 0), (Value.int IntKind.i64 0), (Value.int IntKind.i64 0), (Value.int IntKind.i64 0)] := by kernel_rfl
theorem tar99 : tarray Tryd.prog 99 = some (13, 98, 2) := by kernel_rfl
theorem tby99 : Tryd.prog.bytesOf 99 = 208 := by kernel_rfl
theorem tsh101 : tshape Tryd.prog 101 = some (true, 13) := by kernel_rfl
theorem tze101 : tzero Tryd.prog 101 = some [(Value.pointer none), (Value.pointer none), (Value.pointer none), (Value.pointer none), (Value.pointer none), (Value.pointer none), (Value.pointer none), (Value.pointer none), (Value.pointer none), (Value.pointer none), (Value.pointer none), (Value.pointer none), (Value.pointer none)] := by kernel_rfl
theorem tar101 : tarray Tryd.prog 101 = some (13, 76, 1) := by kernel_rfl
theorem tby101 : Tryd.prog.bytesOf 101 = 104 := by kernel_rfl
theorem tsh102 : tshape Tryd.prog 102 = some (false, 1) := by kernel_rfl
theorem tze102 : tzero Tryd.prog 102 = some [(Value.slice none 0 0)] := by kernel_rfl
theorem tsl102 : tslice Tryd.prog 102 = some (22, 1) := by kernel_rfl
theorem tby102 : Tryd.prog.bytesOf 102 = 24 := by kernel_rfl
theorem tsh104 : tshape Tryd.prog 104 = some (false, 1) := by kernel_rfl
theorem tze104 : tzero Tryd.prog 104 = some [(Value.slice none 0 0)] := by kernel_rfl
theorem tsl104 : tslice Tryd.prog 104 = some (83, 2) := by kernel_rfl
theorem tby104 : Tryd.prog.bytesOf 104 = 24 := by kernel_rfl
theorem tsh110 : tshape Tryd.prog 110 = some (false, 1) := by kernel_rfl
theorem tze110 : tzero Tryd.prog 110 = some [Value.nilFunc] := by kernel_rfl
theorem tby110 : Tryd.prog.bytesOf 110 = 8 := by kernel_rfl
theorem tsh112 : tshape Tryd.prog 112 = some (true, 2) := by kernel_rfl
theorem tze112 : tzero Tryd.prog 112 = some [(Value.int IntKind.i64 0), Value.nilFunc] := by kernel_rfl
theorem tby112 : Tryd.prog.bytesOf 112 = 16 := by kernel_rfl
theorem tsh114 : tshape Tryd.prog 114 = some (false, 1) := by kernel_rfl
theorem tze114 : tzero Tryd.prog 114 = some [(Value.map none)] := by kernel_rfl
theorem tby114 : Tryd.prog.bytesOf 114 = 8 := by kernel_rfl
theorem tsh117 : tshape Tryd.prog 117 = some (false, 1) := by kernel_rfl
theorem tze117 : tzero Tryd.prog 117 = some [Value.nilFunc] := by kernel_rfl
theorem tby117 : Tryd.prog.bytesOf 117 = 8 := by kernel_rfl
theorem tsh120 : tshape Tryd.prog 120 = some (false, 1) := by kernel_rfl
theorem tze120 : tzero Tryd.prog 120 = some [Value.nilFunc] := by kernel_rfl
theorem tby120 : Tryd.prog.bytesOf 120 = 8 := by kernel_rfl
theorem tsh124 : tshape Tryd.prog 124 = some (false, 1) := by kernel_rfl
theorem tze124 : tzero Tryd.prog 124 = some [Value.nilFunc] := by kernel_rfl
theorem tby124 : Tryd.prog.bytesOf 124 = 8 := by kernel_rfl
theorem tsh131 : tshape Tryd.prog 131 = some (false, 1) := by kernel_rfl
theorem tze131 : tzero Tryd.prog 131 = some [(Value.slice none 0 0)] := by kernel_rfl
theorem tsl131 : tslice Tryd.prog 131 = some (5, 1) := by kernel_rfl
theorem tby131 : Tryd.prog.bytesOf 131 = 24 := by kernel_rfl
theorem tsh132 : tshape Tryd.prog 132 = some (true, 11) := by kernel_rfl
theorem tze132 : tzero Tryd.prog 132 = some [(Value.slice none 0 0), (Value.slice none 0 0), (Value.slice none 0 0), (Value.slice none 0 0), (Value.slice none 0 0), (Value.slice none 0 0), (Value.slice none 0 0), (Value.slice none 0 0), (Value.slice none 0 0), (Value.slice none 0 0), (Value.slice none 0 0)] := by kernel_rfl
theorem tar132 : tarray Tryd.prog 132 = some (11, 131, 1) := by kernel_rfl
theorem tby132 : Tryd.prog.bytesOf 132 = 264 := by kernel_rfl
theorem tsh134 : tshape Tryd.prog 134 = some (false, 1) := by kernel_rfl
theorem tze134 : tzero Tryd.prog 134 = some [Value.nilFunc] := by kernel_rfl
theorem tby134 : Tryd.prog.bytesOf 134 = 8 := by kernel_rfl
theorem tfl24_0 : tfield Tryd.prog 24 0 = some (0, 1) := by kernel_rfl
theorem tfl24_1 : tfield Tryd.prog 24 1 = some (1, 1) := by kernel_rfl
theorem tfl24_2 : tfield Tryd.prog 24 2 = some (2, 1) := by kernel_rfl
theorem tfl24_3 : tfield Tryd.prog 24 3 = some (3, 1) := by kernel_rfl
theorem tfl24_4 : tfield Tryd.prog 24 4 = some (4, 1) := by kernel_rfl
theorem tfl24_5 : tfield Tryd.prog 24 5 = some (5, 1) := by kernel_rfl
theorem tfl24_6 : tfield Tryd.prog 24 6 = some (6, 1) := by kernel_rfl
theorem tfl24_7 : tfield Tryd.prog 24 7 = some (7, 1) := by kernel_rfl
theorem tfl24_8 : tfield Tryd.prog 24 8 = some (8, 1) := by kernel_rfl
theorem tfl24_9 : tfield Tryd.prog 24 9 = some (9, 1) := by kernel_rfl
theorem tfl24_10 : tfield Tryd.prog 24 10 = some (10, 1) := by kernel_rfl
theorem tfl24_11 : tfield Tryd.prog 24 11 = some (11, 1) := by kernel_rfl
theorem tfl24_12 : tfield Tryd.prog 24 12 = some (12, 1) := by kernel_rfl
theorem tfl24_13 : tfield Tryd.prog 24 13 = some (13, 1) := by kernel_rfl
theorem tfl24_14 : tfield Tryd.prog 24 14 = some (14, 1) := by kernel_rfl
theorem tfl28_0 : tfield Tryd.prog 28 0 = some (0, 1) := by kernel_rfl
theorem tfl28_1 : tfield Tryd.prog 28 1 = some (1, 1) := by kernel_rfl
theorem tfl28_2 : tfield Tryd.prog 28 2 = some (2, 1) := by kernel_rfl
theorem tfl28_3 : tfield Tryd.prog 28 3 = some (3, 1) := by kernel_rfl
theorem tfl28_4 : tfield Tryd.prog 28 4 = some (4, 1) := by kernel_rfl
theorem tfl28_5 : tfield Tryd.prog 28 5 = some (5, 1) := by kernel_rfl
theorem tfl28_6 : tfield Tryd.prog 28 6 = some (6, 1) := by kernel_rfl
theorem tfl30_0 : tfield Tryd.prog 30 0 = some (0, 1) := by kernel_rfl
theorem tfl30_1 : tfield Tryd.prog 30 1 = some (1, 1) := by kernel_rfl
theorem tfl30_2 : tfield Tryd.prog 30 2 = some (2, 1) := by kernel_rfl
theorem tfl30_3 : tfield Tryd.prog 30 3 = some (3, 15) := by kernel_rfl
theorem tfl30_4 : tfield Tryd.prog 30 4 = some (18, 1) := by kernel_rfl
theorem tfl30_5 : tfield Tryd.prog 30 5 = some (19, 1) := by kernel_rfl
theorem tfl30_6 : tfield Tryd.prog 30 6 = some (20, 7) := by kernel_rfl
theorem tfl37_0 : tfield Tryd.prog 37 0 = some (0, 1) := by kernel_rfl
theorem tfl37_1 : tfield Tryd.prog 37 1 = some (1, 1) := by kernel_rfl
theorem tfl46_0 : tfield Tryd.prog 46 0 = some (0, 1) := by kernel_rfl
theorem tfl46_4 : tfield Tryd.prog 46 4 = some (4, 1) := by kernel_rfl
theorem tfl46_5 : tfield Tryd.prog 46 5 = some (5, 1) := by kernel_rfl
theorem tfl46_6 : tfield Tryd.prog 46 6 = some (6, 1) := by kernel_rfl
theorem tfl46_7 : tfield Tryd.prog 46 7 = some (7, 1) := by kernel_rfl
theorem tfl48_0 : tfield Tryd.prog 48 0 = some (0, 1) := by kernel_rfl
theorem tfl48_1 : tfield Tryd.prog 48 1 = some (1, 1) := by kernel_rfl
theorem tfl48_2 : tfield Tryd.prog 48 2 = some (2, 1) := by kernel_rfl
theorem tfl48_3 : tfield Tryd.prog 48 3 = some (3, 1) := by kernel_rfl
theorem tfl49_0 : tfield Tryd.prog 49 0 = some (0, 1) := by kernel_rfl
theorem tfl49_1 : tfield Tryd.prog 49 1 = some (1, 1) := by kernel_rfl
theorem tfl67_0 : tfield Tryd.prog 67 0 = some (0, 27) := by kernel_rfl
theorem tfl67_1 : tfield Tryd.prog 67 1 = some (27, 1) := by kernel_rfl
theorem tfl67_2 : tfield Tryd.prog 67 2 = some (28, 1) := by kernel_rfl
theorem tfl83_0 : tfield Tryd.prog 83 0 = some (0, 1) := by kernel_rfl
theorem tfl83_1 : tfield Tryd.prog 83 1 = some (1, 1) := by kernel_rfl
theorem tfl98_0 : tfield Tryd.prog 98 0 = some (0, 1) := by kernel_rfl
theorem tfl98_1 : tfield Tryd.prog 98 1 = some (1, 1) := by kernel_rfl
theorem tfl112_0 : tfield Tryd.prog 112 0 = some (0, 1) := by kernel_rfl
theorem tfl112_1 : tfield Tryd.prog 112 1 = some (1, 1) := by kernel_rfl
theorem tpl24_ : tplaces Tryd.prog 24 [] = some [] := by kernel_rfl
theorem tpl24_0_1_8_9_10_12 : tplaces Tryd.prog 24 [0, 1, 8, 9, 10, 12] = some [(0, 1), (1, 1), (8, 1), (9, 1), (10, 1), (12, 1)] := by kernel_rfl
theorem tpl28_0_1_2_5 : tplaces Tryd.prog 28 [0, 1, 2, 5] = some [(0, 1), (1, 1), (2, 1), (5, 1)] := by kernel_rfl
theorem tpl30_ : tplaces Tryd.prog 30 [] = some [] := by kernel_rfl
theorem tpl37_0_1 : tplaces Tryd.prog 37 [0, 1] = some [(0, 1), (1, 1)] := by kernel_rfl
theorem tpl46_ : tplaces Tryd.prog 46 [] = some [] := by kernel_rfl
theorem tpl46_0_1_2_3_4_5 : tplaces Tryd.prog 46 [0, 1, 2, 3, 4, 5] = some [(0, 1), (1, 1), (2, 1), (3, 1), (4, 1), (5, 1)] := by kernel_rfl
theorem tpl48_0_1_2_3 : tplaces Tryd.prog 48 [0, 1, 2, 3] = some [(0, 1), (1, 1), (2, 1), (3, 1)] := by kernel_rfl
theorem tpl49_ : tplaces Tryd.prog 49 [] = some [] := by kernel_rfl
theorem tpl49_0_1 : tplaces Tryd.prog 49 [0, 1] = some [(0, 1), (1, 1)] := by kernel_rfl
theorem tpl59_0_1_2_3_4 : tplaces Tryd.prog 59 [0, 1, 2, 3, 4] = some [(0, 1), (1, 1), (2, 1), (3, 1), (4, 1)] := by kernel_rfl
theorem tpl61_0_1_2_3_4_5_6_7_8_9_10_11_12 : tplaces Tryd.prog 61 [0, 1, 2, 3, 4, 5, 6, 7, 8, 9, 10, 11, 12] = some [(0, 1), (1, 1), (2, 1), (3, 1), (4, 1), (5, 1), (6, 1), (7, 1), (8, 1), (9, 1), (10, 1), (11, 1), (12, 1)] := by kernel_rfl
theorem tpl67_0_1_2 : tplaces Tryd.prog 67 [0, 1, 2] = some [(0, 27), (27, 1), (28, 1)] := by kernel_rfl
theorem tpl68_0_1_2_3_4_5_6_7 : tplaces Tryd.prog 68 [0, 1, 2, 3, 4, 5, 6, 7] = some [(0, 1), (1, 1), (2, 1), (3, 1), (4, 1), (5, 1), (6, 1), (7, 1)] := by kernel_rfl
theorem tpl83_0_1 : tplaces Tryd.prog 83 [0, 1] = some [(0, 1), (1, 1)] := by kernel_rfl
theorem tpl98_0_1 : tplaces Tryd.prog 98 [0, 1] = some [(0, 1), (1, 1)] := by kernel_rfl
theorem tpl99_0_1_2_3_4_5_6_7_8_9_10_11_12 : tplaces Tryd.prog 99 [0, 1, 2, 3, 4, 5, 6, 7, 8, 9, 10, 11, 12] = some [(0, 2), (2, 2), (4, 2), (6, 2), (8, 2), (10, 2), (12, 2), (14, 2), (16, 2), (18, 2), (20, 2), (22, 2), (24, 2)] := by kernel_rfl
theorem tpl101_0_1_2_3_4_5_6_7_8_9_10_11_12 : tplaces Tryd.prog 101 [0, 1, 2, 3, 4, 5, 6, 7, 8, 9, 10, 11, 12] = some [(0, 1), (1, 1), (2, 1), (3, 1), (4, 1), (5, 1), (6, 1), (7, 1), (8, 1), (9, 1), (10, 1), (11, 1), (12, 1)] := by kernel_rfl
theorem tpl112_0_1 : tplaces Tryd.prog 112 [0, 1] = some [(0, 1), (1, 1)] := by kernel_rfl
theorem tpl132_1_2_3_4_5_6_7_9_10 : tplaces Tryd.prog 132 [1, 2, 3, 4, 5, 6, 7, 9, 10] = some [(1, 1), (2, 1), (3, 1), (4, 1), (5, 1), (6, 1), (7, 1), (9, 1), (10, 1)] := by kernel_rfl
theorem tzr22_0 : zrow Tryd.prog 22 0 = some [] := by kernel_rfl
theorem tzr22_1 : zrow Tryd.prog 22 1 = some [(Value.int IntKind.i64 0)] := by kernel_rfl
theorem tzr22_2 : zrow Tryd.prog 22 2 = some [(Value.int IntKind.i64 0), (Value.int IntKind.i64 0)] := by kernel_rfl
theorem tzr25_0 : zrow Tryd.prog 25 0 = some [] := by kernel_rfl
theorem tzr25_1 : zrow Tryd.prog 25 1 = some [(Value.int IntKind.i64 0), (Value.int IntKind.i64 0), (Value.int IntKind.i64 0), (Value.bool false)] := by kernel_rfl
theorem tzr26_0 : zrow Tryd.prog 26 0 = some [] := by kernel_rfl
theorem tzr26_1 : zrow Tryd.prog 26 1 = some [(Value.int IntKind.i64 0), (Value.int IntKind.i64 0), (Value.int IntKind.i64 0), (Value.int IntKind.i64 0), (Value.int IntKind.u8 0), (Value.int IntKind.i64 0), (Value.bool false), (Value.bool false)] := by kernel_rfl
theorem tzr90_1 : zrow Tryd.prog 90 1 = some [(Value.int IntKind.u8 0), (Value.slice none 0 0)] := by kernel_rfl
theorem tzr102_3 : zrow Tryd.prog 102 3 = some [(Value.slice none 0 0), (Value.slice none 0 0), (Value.slice none 0 0)] := by kernel_rfl
theorem tzr104_1 : zrow Tryd.prog 104 1 = some [(Value.bool false), (Value.int IntKind.i64 0)] := by kernel_rfl
theorem tzr104_2 : zrow Tryd.prog 104 2 = some [(Value.bool false), (Value.int IntKind.i64 0), (Value.bool false), (Value.int IntKind.i64 0)] := by kernel_rfl
theorem tzr104_3 : zrow Tryd.prog 104 3 = some [(Value.bool false), (Value.int IntKind.i64 0), (Value.bool false), (Value.int IntKind.i64 0), (Value.bool false), (Value.int IntKind.i64 0)] := by kernel_rfl
theorem tzr131_1 : zrow Tryd.prog 131 1 = some [(Value.int IntKind.u8 0)] := by kernel_rfl
theorem tzr131_2 : zrow Tryd.prog 131 2 = some [(Value.int IntKind.u8 0), (Value.int IntKind.u8 0)] := by kernel_rfl
theorem teq28 : teq Tryd.prog 28 = some [true, true, true, true, false, true, true] := by kernel_rfl
theorem teq46 : teq Tryd.prog 46 = some [true, true, true, true, true, true, false, false] := by kernel_rfl
theorem teq48 : teq Tryd.prog 48 = some [true, true, true, false] := by kernel_rfl
theorem teq61 : teq Tryd.prog 61 = some [true, true, true, true, true, true, true, true, true, true, true, true, true] := by kernel_rfl
theorem en6 : ∀ args w, (callFunc 6 args).run Tryd.prog w = .ok (.enter 6 args) w := enters_fn Tryd.func6 (by kernel_rfl) rfl
theorem en7 : ∀ args w, (callFunc 7 args).run Tryd.prog w = .ok (.enter 7 args) w := enters_fn Tryd.func7 (by kernel_rfl) rfl
theorem en8 : ∀ args w, (callFunc 8 args).run Tryd.prog w = .ok (.enter 8 args) w := enters_fn Tryd.func8 (by kernel_rfl) rfl
theorem en9 : ∀ args w, (callFunc 9 args).run Tryd.prog w = .ok (.enter 9 args) w := enters_fn Tryd.func9 (by kernel_rfl) rfl
theorem en10 : ∀ args w, (callFunc 10 args).run Tryd.prog w = .ok (.enter 10 args) w := enters_fn Tryd.func10 (by kernel_rfl) rfl
theorem en11 : ∀ args w, (callFunc 11 args).run Tryd.prog w = .ok (.enter 11 args) w := enters_fn Tryd.func11 (by kernel_rfl) rfl
theorem en12 : ∀ args w, (callFunc 12 args).run Tryd.prog w = .ok (.enter 12 args) w := enters_fn Tryd.func12 (by kernel_rfl) rfl
theorem en13 : ∀ args w, (callFunc 13 args).run Tryd.prog w = .ok (.enter 13 args) w := enters_fn Tryd.func13 (by kernel_rfl) rfl
theorem en14 : ∀ args w, (callFunc 14 args).run Tryd.prog w = .ok (.enter 14 args) w := enters_fn Tryd.func14 (by kernel_rfl) rfl
theorem en15 : ∀ args w, (callFunc 15 args).run Tryd.prog w = .ok (.enter 15 args) w := enters_fn Tryd.func15 (by kernel_rfl) rfl
theorem en16 : ∀ args w, (callFunc 16 args).run Tryd.prog w = .ok (.enter 16 args) w := enters_fn Tryd.func16 (by kernel_rfl) rfl
theorem en17 : ∀ args w, (callFunc 17 args).run Tryd.prog w = .ok (.enter 17 args) w := enters_fn Tryd.func17 (by kernel_rfl) rfl
theorem en18 : ∀ args w, (callFunc 18 args).run Tryd.prog w = .ok (.enter 18 args) w := enters_fn Tryd.func18 (by kernel_rfl) rfl
theorem en19 : ∀ args w, (callFunc 19 args).run Tryd.prog w = .ok (.enter 19 args) w := enters_fn Tryd.func19 (by kernel_rfl) rfl
theorem en20 : ∀ args w, (callFunc 20 args).run Tryd.prog w = .ok (.enter 20 args) w := enters_fn Tryd.func20 (by kernel_rfl) rfl
theorem en21 : ∀ args w, (callFunc 21 args).run Tryd.prog w = .ok (.enter 21 args) w := enters_fn Tryd.func21 (by kernel_rfl) rfl
theorem en22 : ∀ args w, (callFunc 22 args).run Tryd.prog w = .ok (.enter 22 args) w := enters_fn Tryd.func22 (by kernel_rfl) rfl
theorem en23 : ∀ args w, (callFunc 23 args).run Tryd.prog w = .ok (.enter 23 args) w := enters_fn Tryd.func23 (by kernel_rfl) rfl
theorem en24 : ∀ args w, (callFunc 24 args).run Tryd.prog w = .ok (.enter 24 args) w := enters_fn Tryd.func24 (by kernel_rfl) rfl
theorem en25 : ∀ args w, (callFunc 25 args).run Tryd.prog w = .ok (.enter 25 args) w := enters_fn Tryd.func25 (by kernel_rfl) rfl
theorem en26 : ∀ args w, (callFunc 26 args).run Tryd.prog w = .ok (.enter 26 args) w := enters_fn Tryd.func26 (by kernel_rfl) rfl
theorem en27 : ∀ args w, (callFunc 27 args).run Tryd.prog w = .ok (.enter 27 args) w := enters_fn Tryd.func27 (by kernel_rfl) rfl
theorem en28 : ∀ args w, (callFunc 28 args).run Tryd.prog w = .ok (.enter 28 args) w := enters_fn Tryd.func28 (by kernel_rfl) rfl
theorem en29 : ∀ args w, (callFunc 29 args).run Tryd.prog w = .ok (.enter 29 args) w := enters_fn Tryd.func29 (by kernel_rfl) rfl
theorem en30 : ∀ args w, (callFunc 30 args).run Tryd.prog w = .ok (.enter 30 args) w := enters_fn Tryd.func30 (by kernel_rfl) rfl
theorem en31 : ∀ args w, (callFunc 31 args).run Tryd.prog w = .ok (.enter 31 args) w := enters_fn Tryd.func31 (by kernel_rfl) rfl
theorem en32 : ∀ args w, (callFunc 32 args).run Tryd.prog w = .ok (.enter 32 args) w := enters_fn Tryd.func32 (by kernel_rfl) rfl
theorem en33 : ∀ args w, (callFunc 33 args).run Tryd.prog w = .ok (.enter 33 args) w := enters_fn Tryd.func33 (by kernel_rfl) rfl
theorem en34 : ∀ args w, (callFunc 34 args).run Tryd.prog w = .ok (.enter 34 args) w := enters_fn Tryd.func34 (by kernel_rfl) rfl
theorem en35 : ∀ args w, (callFunc 35 args).run Tryd.prog w = .ok (.enter 35 args) w := enters_fn Tryd.func35 (by kernel_rfl) rfl
theorem en36 : ∀ args w, (callFunc 36 args).run Tryd.prog w = .ok (.enter 36 args) w := enters_fn Tryd.func36 (by kernel_rfl) rfl
theorem en37 : ∀ args w, (callFunc 37 args).run Tryd.prog w = .ok (.enter 37 args) w := enters_fn Tryd.func37 (by kernel_rfl) rfl
theorem en38 : ∀ args w, (callFunc 38 args).run Tryd.prog w = .ok (.enter 38 args) w := enters_fn Tryd.func38 (by kernel_rfl) rfl
theorem en39 : ∀ args w, (callFunc 39 args).run Tryd.prog w = .ok (.enter 39 args) w := enters_fn Tryd.func39 (by kernel_rfl) rfl
theorem en40 : ∀ args w, (callFunc 40 args).run Tryd.prog w = .ok (.enter 40 args) w := enters_fn Tryd.func40 (by kernel_rfl) rfl
theorem en41 : ∀ args w, (callFunc 41 args).run Tryd.prog w = .ok (.enter 41 args) w := enters_fn Tryd.func41 (by kernel_rfl) rfl
theorem en42 : ∀ args w, (callFunc 42 args).run Tryd.prog w = .ok (.enter 42 args) w := enters_fn Tryd.func42 (by kernel_rfl) rfl
theorem en43 : ∀ args w, (callFunc 43 args).run Tryd.prog w = .ok (.enter 43 args) w := enters_fn Tryd.func43 (by kernel_rfl) rfl
theorem en44 : ∀ args w, (callFunc 44 args).run Tryd.prog w = .ok (.enter 44 args) w := enters_fn Tryd.func44 (by kernel_rfl) rfl
theorem en45 : ∀ args w, (callFunc 45 args).run Tryd.prog w = .ok (.enter 45 args) w := enters_fn Tryd.func45 (by kernel_rfl) rfl
theorem en46 : ∀ args w, (callFunc 46 args).run Tryd.prog w = .ok (.enter 46 args) w := enters_fn Tryd.func46 (by kernel_rfl) rfl
theorem en47 : ∀ args w, (callFunc 47 args).run Tryd.prog w = .ok (.enter 47 args) w := enters_fn Tryd.func47 (by kernel_rfl) rfl
theorem en48 : ∀ args w, (callFunc 48 args).run Tryd.prog w = .ok (.enter 48 args) w := enters_fn Tryd.func48 (by kernel_rfl) rfl
theorem en49 : ∀ args w, (callFunc 49 args).run Tryd.prog w = .ok (.enter 49 args) w := enters_fn Tryd.func49 (by kernel_rfl) rfl
theorem en50 : ∀ args w, (callFunc 50 args).run Tryd.prog w = .ok (.enter 50 args) w := enters_fn Tryd.func50 (by kernel_rfl) rfl
theorem en51 : ∀ args w, (callFunc 51 args).run Tryd.prog w = .ok (.enter 51 args) w := enters_fn Tryd.func51 (by kernel_rfl) rfl
theorem en52 : ∀ args w, (callFunc 52 args).run Tryd.prog w = .ok (.enter 52 args) w := enters_fn Tryd.func52 (by kernel_rfl) rfl
theorem en53 : ∀ args w, (callFunc 53 args).run Tryd.prog w = .ok (.enter 53 args) w := enters_fn Tryd.func53 (by kernel_rfl) rfl
theorem en54 : ∀ args w, (callFunc 54 args).run Tryd.prog w = .ok (.enter 54 args) w := enters_fn Tryd.func54 (by kernel_rfl) rfl
theorem en55 : ∀ args w, (callFunc 55 args).run Tryd.prog w = .ok (.enter 55 args) w := enters_fn Tryd.func55 (by kernel_rfl) rfl
theorem en56 : ∀ args w, (callFunc 56 args).run Tryd.prog w = .ok (.enter 56 args) w := enters_fn Tryd.func56 (by kernel_rfl) rfl
theorem en57 : ∀ args w, (callFunc 57 args).run Tryd.prog w = .ok (.enter 57 args) w := enters_fn Tryd.func57 (by kernel_rfl) rfl
theorem en58 : ∀ args w, (callFunc 58 args).run Tryd.prog w = .ok (.enter 58 args) w := enters_fn Tryd.func58 (by kernel_rfl) rfl
theorem en59 : ∀ args w, (callFunc 59 args).run Tryd.prog w = .ok (.enter 59 args) w := enters_fn Tryd.func59 (by kernel_rfl) rfl
theorem en60 : ∀ args w, (callFunc 60 args).run Tryd.prog w = .ok (.enter 60 args) w := enters_fn Tryd.func60 (by kernel_rfl) rfl
theorem en61 : ∀ args w, (callFunc 61 args).run Tryd.prog w = .ok (.enter 61 args) w := enters_fn Tryd.func61 (by kernel_rfl) rfl
theorem en62 : ∀ args w, (callFunc 62 args).run Tryd.prog w = .ok (.enter 62 args) w := enters_fn Tryd.func62 (by kernel_rfl) rfl
theorem en63 : ∀ args w, (callFunc 63 args).run Tryd.prog w = .ok (.enter 63 args) w := enters_fn Tryd.func63 (by kernel_rfl) rfl
theorem en64 : ∀ args w, (callFunc 64 args).run Tryd.prog w = .ok (.enter 64 args) w := enters_fn Tryd.func64 (by kernel_rfl) rfl
theorem en65 : ∀ args w, (callFunc 65 args).run Tryd.prog w = .ok (.enter 65 args) w := enters_fn Tryd.func65 (by kernel_rfl) rfl
theorem en66 : ∀ args w, (callFunc 66 args).run Tryd.prog w = .ok (.enter 66 args) w := enters_fn Tryd.func66 (by kernel_rfl) rfl
theorem en67 : ∀ args w, (callFunc 67 args).run Tryd.prog w = .ok (.enter 67 args) w := enters_fn Tryd.func67 (by kernel_rfl) rfl
theorem en68 : ∀ args w, (callFunc 68 args).run Tryd.prog w = .ok (.enter 68 args) w := enters_fn Tryd.func68 (by kernel_rfl) rfl
theorem en69 : ∀ args w, (callFunc 69 args).run Tryd.prog w = .ok (.enter 69 args) w := enters_fn Tryd.func69 (by kernel_rfl) rfl
theorem en70 : ∀ args w, (callFunc 70 args).run Tryd.prog w = .ok (.enter 70 args) w := enters_fn Tryd.func70 (by kernel_rfl) rfl
theorem en71 : ∀ args w, (callFunc 71 args).run Tryd.prog w = .ok (.enter 71 args) w := enters_fn Tryd.func71 (by kernel_rfl) rfl
theorem en72 : ∀ args w, (callFunc 72 args).run Tryd.prog w = .ok (.enter 72 args) w := enters_fn Tryd.func72 (by kernel_rfl) rfl
theorem en73 : ∀ args w, (callFunc 73 args).run Tryd.prog w = .ok (.enter 73 args) w := enters_fn Tryd.func73 (by kernel_rfl) rfl
theorem en74 : ∀ args w, (callFunc 74 args).run Tryd.prog w = .ok (.enter 74 args) w := enters_fn Tryd.func74 (by kernel_rfl) rfl
theorem en75 : ∀ args w, (callFunc 75 args).run Tryd.prog w = .ok (.enter 75 args) w := enters_fn Tryd.func75 (by kernel_rfl) rfl
theorem en76 : ∀ args w, (callFunc 76 args).run Tryd.prog w = .ok (.enter 76 args) w := enters_fn Tryd.func76 (by kernel_rfl) rfl
theorem en77 : ∀ args w, (callFunc 77 args).run Tryd.prog w = .ok (.enter 77 args) w := enters_fn Tryd.func77 (by kernel_rfl) rfl
theorem en78 : ∀ args w, (callFunc 78 args).run Tryd.prog w = .ok (.enter 78 args) w := enters_fn Tryd.func78 (by kernel_rfl) rfl
theorem en79 : ∀ args w, (callFunc 79 args).run Tryd.prog w = .ok (.enter 79 args) w := enters_fn Tryd.func79 (by kernel_rfl) rfl
theorem en80 : ∀ args w, (callFunc 80 args).run Tryd.prog w = .ok (.enter 80 args) w := enters_fn Tryd.func80 (by kernel_rfl) rfl
theorem en81 : ∀ args w, (callFunc 81 args).run Tryd.prog w = .ok (.enter 81 args) w := enters_fn Tryd.func81 (by kernel_rfl) rfl
theorem en82 : ∀ args w, (callFunc 82 args).run Tryd.prog w = .ok (.enter 82 args) w := enters_fn Tryd.func82 (by kernel_rfl) rfl
theorem en83 : ∀ args w, (callFunc 83 args).run Tryd.prog w = .ok (.enter 83 args) w := enters_fn Tryd.func83 (by kernel_rfl) rfl
theorem en84 : ∀ args w, (callFunc 84 args).run Tryd.prog w = .ok (.enter 84 args) w := enters_fn Tryd.func84 (by kernel_rfl) rfl
theorem en85 : ∀ args w, (callFunc 85 args).run Tryd.prog w = .ok (.enter 85 args) w := enters_fn Tryd.func85 (by kernel_rfl) rfl
theorem en86 : ∀ args w, (callFunc 86 args).run Tryd.prog w = .ok (.enter 86 args) w := enters_fn Tryd.func86 (by kernel_rfl) rfl
theorem en87 : ∀ args w, (callFunc 87 args).run Tryd.prog w = .ok (.enter 87 args) w := enters_fn Tryd.func87 (by kernel_rfl) rfl
theorem en88 : ∀ args w, (callFunc 88 args).run Tryd.prog w = .ok (.enter 88 args) w := enters_fn Tryd.func88 (by kernel_rfl) rfl
theorem en89 : ∀ args w, (callFunc 89 args).run Tryd.prog w = .ok (.enter 89 args) w := enters_fn Tryd.func89 (by kernel_rfl) rfl
theorem en90 : ∀ args w, (callFunc 90 args).run Tryd.prog w = .ok (.enter 90 args) w := enters_fn Tryd.func90 (by kernel_rfl) rfl
theorem en91 : ∀ args w, (callFunc 91 args).run Tryd.prog w = .ok (.enter 91 args) w := enters_fn Tryd.func91 (by kernel_rfl) rfl
theorem en93 : ∀ args w, (callFunc 93 args).run Tryd.prog w = .ok (.enter 93 args) w := enters_fn Tryd.func93 (by kernel_rfl) rfl
theorem en94 : ∀ args w, (callFunc 94 args).run Tryd.prog w = .ok (.enter 94 args) w := enters_fn Tryd.func94 (by kernel_rfl) rfl
theorem en95 : ∀ args w, (callFunc 95 args).run Tryd.prog w = .ok (.enter 95 args) w := enters_fn Tryd.func95 (by kernel_rfl) rfl
theorem tmx : Tryd.prog.follows .mixedOrders = true := by kernel_rfl

end Go.Proofs.YtcppphgpbaablaaDoor
