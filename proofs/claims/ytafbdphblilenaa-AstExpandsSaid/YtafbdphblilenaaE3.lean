/- Part of the proof: the program logic, or what some functions compute (Ty Da F2 F3 F4 F5 F13 F15 F16 F22 F30 Db F31). -/
import Derived.Test.YtafbdphblilenaaRows
import Derived.KernelRfl
import Derived.Test.YtafbdphblilenaaE1
import Derived.Test.YtafbdphblilenaaE2
set_option linter.unusedSimpArgs false
set_option linter.unusedVariables false
/- THE TYPE TABLE's FACTS, as the V-logic asks them: by my program fill2.py. -/
namespace Go.Proofs.Ytafbdphblilenaa
open Go.VL
theorem ty1 : tyI Try.prog 1 = some ⟨1, false, 8, [.nilFunc]⟩ := by kernel_rfl
theorem ty2 : tyI Try.prog 2 = some ⟨1, false, 8, [.int .i64 0]⟩ := by kernel_rfl
theorem un2 : Try.prog.underlying 2 = some (.int .i64) := by kernel_rfl
theorem ty3 : tyI Try.prog 3 = some ⟨1, false, 8, [.int .i64 0]⟩ := by kernel_rfl
theorem un3 : Try.prog.underlying 3 = some (.int .i64) := by kernel_rfl
theorem ty4 : tyI Try.prog 4 = some ⟨1, false, 1, [.bool false]⟩ := by kernel_rfl
theorem un4 : Try.prog.underlying 4 = some .bool := by kernel_rfl
theorem ty5 : tyI Try.prog 5 = some ⟨1, false, 1, [.int .u8 0]⟩ := by kernel_rfl
theorem un5 : Try.prog.underlying 5 = some (.int .u8) := by kernel_rfl
theorem ty7 : tyI Try.prog 7 = some ⟨4, true, 24, [.int .i64 0, .int .i64 0, .bool false, .int .u8 0]⟩ := by kernel_rfl
theorem fOff7_0 : fOff Try.prog 7 0 = some 0 := by kernel_rfl
theorem fOff7_1 : fOff Try.prog 7 1 = some 1 := by kernel_rfl
theorem fOff7_2 : fOff Try.prog 7 2 = some 2 := by kernel_rfl
theorem fOff7_3 : fOff Try.prog 7 3 = some 3 := by kernel_rfl
theorem spl7 : structPl Try.prog 7 = some [(0, 1), (1, 1), (2, 1), (3, 1)] := by kernel_rfl
theorem ty9 : tyI Try.prog 9 = some ⟨1, false, 16, [.string ⟨#[]⟩]⟩ := by kernel_rfl
theorem ty12 : tyI Try.prog 12 = some ⟨1, false, 8, [.int .u64 0]⟩ := by kernel_rfl
theorem un12 : Try.prog.underlying 12 = some (.int .u64) := by kernel_rfl
theorem ty13 : tyI Try.prog 13 = some ⟨2, true, 24, [.string ⟨#[]⟩, .int .u64 0]⟩ := by kernel_rfl
theorem fOff13_0 : fOff Try.prog 13 0 = some 0 := by kernel_rfl
theorem fOff13_1 : fOff Try.prog 13 1 = some 1 := by kernel_rfl
theorem spl13 : structPl Try.prog 13 = some [(0, 1), (1, 1)] := by kernel_rfl
theorem ty15 : tyI Try.prog 15 = some ⟨1, false, 8, [.pointer none]⟩ := by kernel_rfl
theorem un15 : Try.prog.underlying 15 = some (.pointer 132) := by kernel_rfl
theorem ty16 : tyI Try.prog 16 = some ⟨1, false, 8, [.pointer none]⟩ := by kernel_rfl
theorem un16 : Try.prog.underlying 16 = some (.pointer 135) := by kernel_rfl
theorem ty17 : tyI Try.prog 17 = some ⟨1, false, 8, [.pointer none]⟩ := by kernel_rfl
theorem un17 : Try.prog.underlying 17 = some (.pointer 144) := by kernel_rfl
theorem ty18 : tyI Try.prog 18 = some ⟨1, true, 8, [.pointer none]⟩ := by kernel_rfl
theorem fOff18_0 : fOff Try.prog 18 0 = some 0 := by kernel_rfl
theorem spl18 : structPl Try.prog 18 = some [(0, 1)] := by kernel_rfl
theorem ty21 : tyI Try.prog 21 = some ⟨1, false, 4, [.int .i32 0]⟩ := by kernel_rfl
theorem un21 : Try.prog.underlying 21 = some (.int .i32) := by kernel_rfl
theorem ty22 : tyI Try.prog 22 = some ⟨1, false, 24, [.slice none 0 0]⟩ := by kernel_rfl
theorem slE22 : slE Try.prog 22 = some 1 := by kernel_rfl
theorem slTy22 : slTy Try.prog 22 = some (3, ⟨1, false, 8, [.int .i64 0]⟩) := by kernel_rfl
theorem un22 : Try.prog.underlying 22 = some (.slice 3) := by kernel_rfl
theorem ty23 : tyI Try.prog 23 = some ⟨1, false, 24, [.slice none 0 0]⟩ := by kernel_rfl
theorem slE23 : slE Try.prog 23 = some 2 := by kernel_rfl
theorem slTy23 : slTy Try.prog 23 = some (79, ⟨2, true, 16, [.int .i64 0, .int .i64 0]⟩) := by kernel_rfl
theorem un23 : Try.prog.underlying 23 = some (.slice 79) := by kernel_rfl
theorem ty24 : tyI Try.prog 24 = some ⟨1, false, 24, [.slice none 0 0]⟩ := by kernel_rfl
theorem slE24 : slE Try.prog 24 = some 8 := by kernel_rfl
theorem slTy24 : slTy Try.prog 24 = some (26, ⟨8, true, 96, [.int .i64 0, .slice none 0 0, .slice none 0 0, .int .i64 0, .int .i64 0, .int .i64 0, .int .i64 0, .bool false]⟩) := by kernel_rfl
theorem un24 : Try.prog.underlying 24 = some (.slice 26) := by kernel_rfl
theorem ty25 : tyI Try.prog 25 = some ⟨8, true, 96, [.int .i64 0, .slice none 0 0, .slice none 0 0, .int .i64 0, .int .i64 0, .int .i64 0, .int .i64 0, .bool false]⟩ := by kernel_rfl
theorem fOff25_0 : fOff Try.prog 25 0 = some 0 := by kernel_rfl
theorem fOff25_1 : fOff Try.prog 25 1 = some 1 := by kernel_rfl
theorem fOff25_2 : fOff Try.prog 25 2 = some 2 := by kernel_rfl
theorem fOff25_3 : fOff Try.prog 25 3 = some 3 := by kernel_rfl
theorem fOff25_4 : fOff Try.prog 25 4 = some 4 := by kernel_rfl
theorem fOff25_5 : fOff Try.prog 25 5 = some 5 := by kernel_rfl
theorem fOff25_6 : fOff Try.prog 25 6 = some 6 := by kernel_rfl
theorem fOff25_7 : fOff Try.prog 25 7 = some 7 := by kernel_rfl
theorem spl25 : structPl Try.prog 25 = some [(0, 1), (1, 1), (2, 1), (3, 1), (4, 1), (5, 1), (6, 1), (7, 1)] := by kernel_rfl
theorem ty26 : tyI Try.prog 26 = some ⟨8, true, 96, [.int .i64 0, .slice none 0 0, .slice none 0 0, .int .i64 0, .int .i64 0, .int .i64 0, .int .i64 0, .bool false]⟩ := by kernel_rfl
theorem fOff26_0 : fOff Try.prog 26 0 = some 0 := by kernel_rfl
theorem fOff26_1 : fOff Try.prog 26 1 = some 1 := by kernel_rfl
theorem fOff26_2 : fOff Try.prog 26 2 = some 2 := by kernel_rfl
theorem fOff26_3 : fOff Try.prog 26 3 = some 3 := by kernel_rfl
theorem fOff26_4 : fOff Try.prog 26 4 = some 4 := by kernel_rfl
theorem fOff26_5 : fOff Try.prog 26 5 = some 5 := by kernel_rfl
theorem fOff26_6 : fOff Try.prog 26 6 = some 6 := by kernel_rfl
theorem fOff26_7 : fOff Try.prog 26 7 = some 7 := by kernel_rfl
theorem spl26 : structPl Try.prog 26 = some [(0, 1), (1, 1), (2, 1), (3, 1), (4, 1), (5, 1), (6, 1), (7, 1)] := by kernel_rfl
theorem ty27 : tyI Try.prog 27 = some ⟨10, true, 112, [.int .i64 0, .slice none 0 0, .slice none 0 0, .int .i64 0, .int .i64 0, .int .i64 0, .int .i64 0, .bool false, .int .i64 0, .bool false]⟩ := by kernel_rfl
theorem fOff27_0 : fOff Try.prog 27 0 = some 0 := by kernel_rfl
theorem fOff27_1 : fOff Try.prog 27 1 = some 8 := by kernel_rfl
theorem fOff27_2 : fOff Try.prog 27 2 = some 9 := by kernel_rfl
theorem spl27 : structPl Try.prog 27 = some [(0, 8), (8, 1), (9, 1)] := by kernel_rfl
theorem ty28 : tyI Try.prog 28 = some ⟨10, true, 112, [.int .i64 0, .slice none 0 0, .slice none 0 0, .int .i64 0, .int .i64 0, .int .i64 0, .int .i64 0, .bool false, .int .i64 0, .bool false]⟩ := by kernel_rfl
theorem fOff28_0 : fOff Try.prog 28 0 = some 0 := by kernel_rfl
theorem fOff28_1 : fOff Try.prog 28 1 = some 8 := by kernel_rfl
theorem fOff28_2 : fOff Try.prog 28 2 = some 9 := by kernel_rfl
theorem spl28 : structPl Try.prog 28 = some [(0, 8), (8, 1), (9, 1)] := by kernel_rfl
theorem ty29 : tyI Try.prog 29 = some ⟨1, false, 8, [.nilFunc]⟩ := by kernel_rfl
theorem ty30 : tyI Try.prog 30 = some ⟨1, false, 8, [.nilFunc]⟩ := by kernel_rfl
theorem ty32 : tyI Try.prog 32 = some ⟨1, false, 8, [.nilFunc]⟩ := by kernel_rfl
theorem ty33 : tyI Try.prog 33 = some ⟨1, false, 8, [.nilFunc]⟩ := by kernel_rfl
theorem ty34 : tyI Try.prog 34 = some ⟨1, false, 8, [.int .i64 0]⟩ := by kernel_rfl
theorem un34 : Try.prog.underlying 34 = some (.int .i64) := by kernel_rfl
theorem ty36 : tyI Try.prog 36 = some ⟨1, false, 8, [.nilFunc]⟩ := by kernel_rfl
theorem ty37 : tyI Try.prog 37 = some ⟨1, false, 8, [.nilFunc]⟩ := by kernel_rfl
theorem ty38 : tyI Try.prog 38 = some ⟨1, false, 8, [.nilFunc]⟩ := by kernel_rfl
theorem ty39 : tyI Try.prog 39 = some ⟨1, false, 8, [.nilFunc]⟩ := by kernel_rfl
theorem ty40 : tyI Try.prog 40 = some ⟨1, false, 24, [.slice none 0 0]⟩ := by kernel_rfl
theorem slE40 : slE Try.prog 40 = some 1 := by kernel_rfl
theorem slTy40 : slTy Try.prog 40 = some (22, ⟨1, false, 24, [.slice none 0 0]⟩) := by kernel_rfl
theorem un40 : Try.prog.underlying 40 = some (.slice 22) := by kernel_rfl
theorem ty41 : tyI Try.prog 41 = some ⟨1, false, 8, [.nilFunc]⟩ := by kernel_rfl
theorem ty42 : tyI Try.prog 42 = some ⟨1, false, 8, [.nilFunc]⟩ := by kernel_rfl
theorem ty43 : tyI Try.prog 43 = some ⟨1, false, 8, [.nilFunc]⟩ := by kernel_rfl
theorem ty44 : tyI Try.prog 44 = some ⟨1, false, 8, [.nilFunc]⟩ := by kernel_rfl
theorem ty45 : tyI Try.prog 45 = some ⟨1, false, 8, [.nilFunc]⟩ := by kernel_rfl
theorem ty46 : tyI Try.prog 46 = some ⟨1, false, 8, [.nilFunc]⟩ := by kernel_rfl
theorem ty47 : tyI Try.prog 47 = some ⟨1, false, 24, [.slice none 0 0]⟩ := by kernel_rfl
theorem slE47 : slE Try.prog 47 = some 10 := by kernel_rfl
theorem slTy47 : slTy Try.prog 47 = some (28, ⟨10, true, 112, [.int .i64 0, .slice none 0 0, .slice none 0 0, .int .i64 0, .int .i64 0, .int .i64 0, .int .i64 0, .bool false, .int .i64 0, .bool false]⟩) := by kernel_rfl
theorem un47 : Try.prog.underlying 47 = some (.slice 28) := by kernel_rfl
theorem ty48 : tyI Try.prog 48 = some ⟨1, false, 8, [.nilFunc]⟩ := by kernel_rfl
theorem ty49 : tyI Try.prog 49 = some ⟨1, false, 8, [.nilFunc]⟩ := by kernel_rfl
theorem ty50 : tyI Try.prog 50 = some ⟨1, false, 8, [.nilFunc]⟩ := by kernel_rfl
theorem ty51 : tyI Try.prog 51 = some ⟨1, false, 8, [.nilFunc]⟩ := by kernel_rfl
theorem ty52 : tyI Try.prog 52 = some ⟨1, false, 8, [.nilFunc]⟩ := by kernel_rfl
theorem ty53 : tyI Try.prog 53 = some ⟨1, false, 8, [.nilFunc]⟩ := by kernel_rfl
theorem ty54 : tyI Try.prog 54 = some ⟨1, false, 8, [.nilFunc]⟩ := by kernel_rfl
theorem ty55 : tyI Try.prog 55 = some ⟨1, false, 8, [.nilFunc]⟩ := by kernel_rfl
theorem ty56 : tyI Try.prog 56 = some ⟨1, false, 8, [.nilFunc]⟩ := by kernel_rfl
theorem ty57 : tyI Try.prog 57 = some ⟨1, false, 8, [.nilFunc]⟩ := by kernel_rfl
theorem ty58 : tyI Try.prog 58 = some ⟨1, false, 8, [.nilFunc]⟩ := by kernel_rfl
theorem ty59 : tyI Try.prog 59 = some ⟨1, false, 24, [.slice none 0 0]⟩ := by kernel_rfl
theorem slE59 : slE Try.prog 59 = some 1 := by kernel_rfl
theorem slTy59 : slTy Try.prog 59 = some (5, ⟨1, false, 1, [.int .u8 0]⟩) := by kernel_rfl
theorem un59 : Try.prog.underlying 59 = some (.slice 5) := by kernel_rfl
theorem ty60 : tyI Try.prog 60 = some ⟨1, false, 8, [.nilFunc]⟩ := by kernel_rfl
theorem ty62 : tyI Try.prog 62 = some ⟨1, false, 8, [.nilFunc]⟩ := by kernel_rfl
theorem ty63 : tyI Try.prog 63 = some ⟨1, false, 8, [.pointer none]⟩ := by kernel_rfl
theorem un63 : Try.prog.underlying 63 = some (.pointer 103) := by kernel_rfl
theorem ty64 : tyI Try.prog 64 = some ⟨1, false, 8, [.nilFunc]⟩ := by kernel_rfl
theorem ty65 : tyI Try.prog 65 = some ⟨1, false, 8, [.nilFunc]⟩ := by kernel_rfl
theorem ty66 : tyI Try.prog 66 = some ⟨1, false, 8, [.nilFunc]⟩ := by kernel_rfl
theorem ty67 : tyI Try.prog 67 = some ⟨1, false, 24, [.slice none 0 0]⟩ := by kernel_rfl
theorem slE67 : slE Try.prog 67 = some 1 := by kernel_rfl
theorem slTy67 : slTy Try.prog 67 = some (59, ⟨1, false, 24, [.slice none 0 0]⟩) := by kernel_rfl
theorem un67 : Try.prog.underlying 67 = some (.slice 59) := by kernel_rfl
theorem ty68 : tyI Try.prog 68 = some ⟨1, false, 8, [.nilFunc]⟩ := by kernel_rfl
theorem ty69 : tyI Try.prog 69 = some ⟨1, false, 8, [.pointer none]⟩ := by kernel_rfl
theorem un69 : Try.prog.underlying 69 = some (.pointer 71) := by kernel_rfl
theorem ty70 : tyI Try.prog 70 = some ⟨5, true, 56, [.slice none 0 0, .int .i64 0, .int .i64 0, .int .i64 0, .int .i64 0]⟩ := by kernel_rfl
theorem fOff70_0 : fOff Try.prog 70 0 = some 0 := by kernel_rfl
theorem fOff70_1 : fOff Try.prog 70 1 = some 1 := by kernel_rfl
theorem fOff70_2 : fOff Try.prog 70 2 = some 2 := by kernel_rfl
theorem fOff70_3 : fOff Try.prog 70 3 = some 3 := by kernel_rfl
theorem fOff70_4 : fOff Try.prog 70 4 = some 4 := by kernel_rfl
theorem spl70 : structPl Try.prog 70 = some [(0, 1), (1, 1), (2, 1), (3, 1), (4, 1)] := by kernel_rfl
theorem ty71 : tyI Try.prog 71 = some ⟨5, true, 56, [.slice none 0 0, .int .i64 0, .int .i64 0, .int .i64 0, .int .i64 0]⟩ := by kernel_rfl
theorem fOff71_0 : fOff Try.prog 71 0 = some 0 := by kernel_rfl
theorem fOff71_1 : fOff Try.prog 71 1 = some 1 := by kernel_rfl
theorem fOff71_2 : fOff Try.prog 71 2 = some 2 := by kernel_rfl
theorem fOff71_3 : fOff Try.prog 71 3 = some 3 := by kernel_rfl
theorem fOff71_4 : fOff Try.prog 71 4 = some 4 := by kernel_rfl
theorem spl71 : structPl Try.prog 71 = some [(0, 1), (1, 1), (2, 1), (3, 1), (4, 1)] := by kernel_rfl
theorem ty72 : tyI Try.prog 72 = some ⟨1, false, 8, [.nilFunc]⟩ := by kernel_rfl
theorem ty73 : tyI Try.prog 73 = some ⟨1, false, 8, [.nilFunc]⟩ := by kernel_rfl
theorem ty74 : tyI Try.prog 74 = some ⟨1, false, 8, [.pointer none]⟩ := by kernel_rfl
theorem un74 : Try.prog.underlying 74 = some (.pointer 26) := by kernel_rfl
theorem ty75 : tyI Try.prog 75 = some ⟨1, false, 8, [.nilFunc]⟩ := by kernel_rfl
theorem ty76 : tyI Try.prog 76 = some ⟨1, false, 8, [.nilFunc]⟩ := by kernel_rfl
theorem ty77 : tyI Try.prog 77 = some ⟨1, false, 8, [.nilFunc]⟩ := by kernel_rfl
theorem ty78 : tyI Try.prog 78 = some ⟨2, true, 16, [.int .i64 0, .int .i64 0]⟩ := by kernel_rfl
theorem fOff78_0 : fOff Try.prog 78 0 = some 0 := by kernel_rfl
theorem fOff78_1 : fOff Try.prog 78 1 = some 1 := by kernel_rfl
theorem spl78 : structPl Try.prog 78 = some [(0, 1), (1, 1)] := by kernel_rfl
theorem ty79 : tyI Try.prog 79 = some ⟨2, true, 16, [.int .i64 0, .int .i64 0]⟩ := by kernel_rfl
theorem fOff79_0 : fOff Try.prog 79 0 = some 0 := by kernel_rfl
theorem fOff79_1 : fOff Try.prog 79 1 = some 1 := by kernel_rfl
theorem spl79 : structPl Try.prog 79 = some [(0, 1), (1, 1)] := by kernel_rfl
theorem ty80 : tyI Try.prog 80 = some ⟨1, false, 8, [.nilFunc]⟩ := by kernel_rfl
theorem ty81 : tyI Try.prog 81 = some ⟨1, false, 8, [.nilFunc]⟩ := by kernel_rfl
theorem ty82 : tyI Try.prog 82 = some ⟨1, false, 8, [.nilFunc]⟩ := by kernel_rfl
theorem ty83 : tyI Try.prog 83 = some ⟨1, false, 8, [.nilFunc]⟩ := by kernel_rfl
theorem ty84 : tyI Try.prog 84 = some ⟨1, false, 8, [.nilFunc]⟩ := by kernel_rfl
theorem ty85 : tyI Try.prog 85 = some ⟨1, false, 8, [.nilFunc]⟩ := by kernel_rfl
theorem ty86 : tyI Try.prog 86 = some ⟨1, false, 8, [.map none]⟩ := by kernel_rfl
theorem ty87 : tyI Try.prog 87 = some ⟨1, false, 8, [.nilFunc]⟩ := by kernel_rfl
theorem ty88 : tyI Try.prog 88 = some ⟨1, false, 8, [.nilFunc]⟩ := by kernel_rfl
theorem ty89 : tyI Try.prog 89 = some ⟨1, false, 8, [.nilFunc]⟩ := by kernel_rfl
theorem ty90 : tyI Try.prog 90 = some ⟨1, false, 8, [.nilFunc]⟩ := by kernel_rfl
theorem ty91 : tyI Try.prog 91 = some ⟨1, true, 24, [.slice none 0 0]⟩ := by kernel_rfl
theorem fOff91_0 : fOff Try.prog 91 0 = some 0 := by kernel_rfl
theorem spl91 : structPl Try.prog 91 = some [(0, 1)] := by kernel_rfl
theorem ty92 : tyI Try.prog 92 = some ⟨1, true, 24, [.slice none 0 0]⟩ := by kernel_rfl
theorem fOff92_0 : fOff Try.prog 92 0 = some 0 := by kernel_rfl
theorem spl92 : structPl Try.prog 92 = some [(0, 1)] := by kernel_rfl
theorem ty93 : tyI Try.prog 93 = some ⟨1, false, 8, [.nilFunc]⟩ := by kernel_rfl
theorem ty94 : tyI Try.prog 94 = some ⟨1, false, 8, [.nilFunc]⟩ := by kernel_rfl
theorem ty95 : tyI Try.prog 95 = some ⟨1, false, 8, [.nilFunc]⟩ := by kernel_rfl
theorem ty96 : tyI Try.prog 96 = some ⟨1, false, 8, [.nilFunc]⟩ := by kernel_rfl
theorem ty97 : tyI Try.prog 97 = some ⟨1, false, 8, [.nilFunc]⟩ := by kernel_rfl
theorem ty99 : tyI Try.prog 99 = some ⟨1, false, 8, [.nilFunc]⟩ := by kernel_rfl
theorem ty101 : tyI Try.prog 101 = some ⟨1, false, 8, [.nilFunc]⟩ := by kernel_rfl
theorem ty102 : tyI Try.prog 102 = some ⟨3, true, 40, [.slice none 0 0, .int .i64 0, .int .i64 0]⟩ := by kernel_rfl
theorem fOff102_0 : fOff Try.prog 102 0 = some 0 := by kernel_rfl
theorem fOff102_1 : fOff Try.prog 102 1 = some 1 := by kernel_rfl
theorem fOff102_2 : fOff Try.prog 102 2 = some 2 := by kernel_rfl
theorem spl102 : structPl Try.prog 102 = some [(0, 1), (1, 1), (2, 1)] := by kernel_rfl
theorem ty103 : tyI Try.prog 103 = some ⟨3, true, 40, [.slice none 0 0, .int .i64 0, .int .i64 0]⟩ := by kernel_rfl
theorem fOff103_0 : fOff Try.prog 103 0 = some 0 := by kernel_rfl
theorem fOff103_1 : fOff Try.prog 103 1 = some 1 := by kernel_rfl
theorem fOff103_2 : fOff Try.prog 103 2 = some 2 := by kernel_rfl
theorem spl103 : structPl Try.prog 103 = some [(0, 1), (1, 1), (2, 1)] := by kernel_rfl
theorem ty104 : tyI Try.prog 104 = some ⟨1, false, 8, [.nilFunc]⟩ := by kernel_rfl
theorem ty105 : tyI Try.prog 105 = some ⟨1, false, 8, [.nilFunc]⟩ := by kernel_rfl
theorem ty106 : tyI Try.prog 106 = some ⟨1, false, 8, [.nilFunc]⟩ := by kernel_rfl
theorem ty107 : tyI Try.prog 107 = some ⟨1, false, 8, [.int .u64 0]⟩ := by kernel_rfl
theorem un107 : Try.prog.underlying 107 = some (.int .u64) := by kernel_rfl
theorem ty108 : tyI Try.prog 108 = some ⟨1, false, 8, [.nilFunc]⟩ := by kernel_rfl
theorem ty109 : tyI Try.prog 109 = some ⟨1, false, 8, [.int .u64 0]⟩ := by kernel_rfl
theorem un109 : Try.prog.underlying 109 = some (.int .u64) := by kernel_rfl
theorem ty110 : tyI Try.prog 110 = some ⟨1, false, 8, [.nilFunc]⟩ := by kernel_rfl
theorem ty111 : tyI Try.prog 111 = some ⟨1, false, 8, [.nilFunc]⟩ := by kernel_rfl
theorem ty112 : tyI Try.prog 112 = some ⟨1, false, 8, [.nilFunc]⟩ := by kernel_rfl
theorem ty113 : tyI Try.prog 113 = some ⟨1, false, 8, [.nilFunc]⟩ := by kernel_rfl
theorem ty114 : tyI Try.prog 114 = some ⟨1, false, 8, [.nilFunc]⟩ := by kernel_rfl
theorem ty115 : tyI Try.prog 115 = some ⟨1, false, 8, [.nilFunc]⟩ := by kernel_rfl
theorem ty116 : tyI Try.prog 116 = some ⟨2, true, 16, [.int .i64 0, .int .i64 0]⟩ := by kernel_rfl
theorem slE116 : slE Try.prog 116 = none := by kernel_rfl
theorem arE116 : arE Try.prog 116 = some (2, 1) := by kernel_rfl
theorem spl116 : structPl Try.prog 116 = none := by kernel_rfl
theorem ty117 : tyI Try.prog 117 = some ⟨1, false, 8, [.nilFunc]⟩ := by kernel_rfl
theorem ty118 : tyI Try.prog 118 = some ⟨1, false, 8, [.pointer none]⟩ := by kernel_rfl
theorem un118 : Try.prog.underlying 118 = some (.pointer 92) := by kernel_rfl
theorem ty119 : tyI Try.prog 119 = some ⟨1, false, 8, [.nilFunc]⟩ := by kernel_rfl
theorem ty120 : tyI Try.prog 120 = some ⟨1, false, 8, [.nilFunc]⟩ := by kernel_rfl
theorem ty121 : tyI Try.prog 121 = some ⟨1, false, 8, [.nilFunc]⟩ := by kernel_rfl
theorem ty122 : tyI Try.prog 122 = some ⟨1, false, 8, [.nilFunc]⟩ := by kernel_rfl
theorem ty123 : tyI Try.prog 123 = some ⟨1, false, 8, [.nilFunc]⟩ := by kernel_rfl
theorem ty124 : tyI Try.prog 124 = some ⟨1, false, 8, [.nilFunc]⟩ := by kernel_rfl
theorem ty125 : tyI Try.prog 125 = some ⟨1, false, 8, [.nilFunc]⟩ := by kernel_rfl
theorem ty126 : tyI Try.prog 126 = some ⟨1, false, 24, [.slice none 0 0]⟩ := by kernel_rfl
theorem slE126 : slE Try.prog 126 = some 1 := by kernel_rfl
theorem slTy126 : slTy Try.prog 126 = some (23, ⟨1, false, 24, [.slice none 0 0]⟩) := by kernel_rfl
theorem un126 : Try.prog.underlying 126 = some (.slice 23) := by kernel_rfl
theorem ty127 : tyI Try.prog 127 = some ⟨1, false, 8, [.nilFunc]⟩ := by kernel_rfl
theorem ty128 : tyI Try.prog 128 = some ⟨1, false, 24, [.slice none 0 0]⟩ := by kernel_rfl
theorem slE128 : slE Try.prog 128 = some 2 := by kernel_rfl
theorem slTy128 : slTy Try.prog 128 = some (116, ⟨2, true, 16, [.int .i64 0, .int .i64 0]⟩) := by kernel_rfl
theorem un128 : Try.prog.underlying 128 = some (.slice 116) := by kernel_rfl
theorem ty129 : tyI Try.prog 129 = some ⟨1, false, 8, [.nilFunc]⟩ := by kernel_rfl
theorem ty130 : tyI Try.prog 130 = some ⟨1, false, 8, [.nilFunc]⟩ := by kernel_rfl
theorem ty131 : tyI Try.prog 131 = some ⟨4, true, 40, [.pointer none, .pointer none, .pointer none, .string ⟨#[]⟩]⟩ := by kernel_rfl
theorem fOff131_0 : fOff Try.prog 131 0 = some 0 := by kernel_rfl
theorem fOff131_1 : fOff Try.prog 131 1 = some 1 := by kernel_rfl
theorem fOff131_2 : fOff Try.prog 131 2 = some 2 := by kernel_rfl
theorem fOff131_3 : fOff Try.prog 131 3 = some 3 := by kernel_rfl
theorem spl131 : structPl Try.prog 131 = some [(0, 1), (1, 1), (2, 1), (3, 1)] := by kernel_rfl
theorem ty133 : tyI Try.prog 133 = some ⟨0, true, 0, []⟩ := by kernel_rfl
theorem slE133 : slE Try.prog 133 = none := by kernel_rfl
theorem arE133 : arE Try.prog 133 = some (0, 1) := by kernel_rfl
theorem spl133 : structPl Try.prog 133 = none := by kernel_rfl
theorem ty134 : tyI Try.prog 134 = some ⟨0, true, 0, []⟩ := by kernel_rfl
theorem spl134 : structPl Try.prog 134 = some [(0, 0)] := by kernel_rfl
theorem ty136 : tyI Try.prog 136 = some ⟨1, false, 4, [.int .u32 0]⟩ := by kernel_rfl
theorem un136 : Try.prog.underlying 136 = some (.int .u32) := by kernel_rfl
theorem ty139 : tyI Try.prog 139 = some ⟨1, false, 8, [.nilFunc]⟩ := by kernel_rfl
theorem ty140 : tyI Try.prog 140 = some ⟨1, false, 8, [.pointer none]⟩ := by kernel_rfl
theorem un140 : Try.prog.underlying 140 = some (.pointer 5) := by kernel_rfl
theorem ty143 : tyI Try.prog 143 = some ⟨11, true, 48, [.int .u64 0, .int .u64 0, .int .u32 0, .int .u8 0, .int .u8 0, .int .u8 0, .int .u8 0, .nilFunc, .pointer none, .int .i32 0, .int .i32 0]⟩ := by kernel_rfl
theorem fOff143_0 : fOff Try.prog 143 0 = some 0 := by kernel_rfl
theorem fOff143_1 : fOff Try.prog 143 1 = some 1 := by kernel_rfl
theorem fOff143_2 : fOff Try.prog 143 2 = some 2 := by kernel_rfl
theorem fOff143_3 : fOff Try.prog 143 3 = some 3 := by kernel_rfl
theorem fOff143_4 : fOff Try.prog 143 4 = some 4 := by kernel_rfl
theorem fOff143_5 : fOff Try.prog 143 5 = some 5 := by kernel_rfl
theorem fOff143_6 : fOff Try.prog 143 6 = some 6 := by kernel_rfl
theorem fOff143_7 : fOff Try.prog 143 7 = some 7 := by kernel_rfl
theorem fOff143_8 : fOff Try.prog 143 8 = some 8 := by kernel_rfl
theorem fOff143_9 : fOff Try.prog 143 9 = some 9 := by kernel_rfl
theorem fOff143_10 : fOff Try.prog 143 10 = some 10 := by kernel_rfl
theorem spl143 : structPl Try.prog 143 = some [(0, 1), (1, 1), (2, 1), (3, 1), (4, 1), (5, 1), (6, 1), (7, 1), (8, 1), (9, 1), (10, 1)] := by kernel_rfl
theorem tys0 : type_of% (
  And.intro @ty1 <|
  And.intro @ty2 <|
  And.intro @un2 <|
  And.intro @ty3 <|
  And.intro @un3 <|
  And.intro @ty4 <|
  And.intro @un4 <|
  And.intro @ty5 <|
  And.intro @un5 <|
  And.intro @ty7 <|
  And.intro @fOff7_0 <|
  And.intro @fOff7_1 <|
  And.intro @fOff7_2 <|
  And.intro @fOff7_3 <|
  And.intro @spl7 <|
  And.intro @ty9 <|
  And.intro @ty12 <|
  And.intro @un12 <|
  And.intro @ty13 <|
  And.intro @fOff13_0 <|
  And.intro @fOff13_1 <|
  And.intro @spl13 <|
  And.intro @ty15 <|
  And.intro @un15 <|
  And.intro @ty16 <|
  And.intro @un16 <|
  And.intro @ty17 <|
  And.intro @un17 <|
  And.intro @ty18 <|
  And.intro @fOff18_0 <|
  And.intro @spl18 <|
  And.intro @ty21 <|
  And.intro @un21 <|
  And.intro @ty22 <|
  And.intro @slE22 <|
  And.intro @slTy22 <|
  And.intro @un22 <|
  And.intro @ty23 <|
  And.intro @slE23 <|
  @slTy23) :=
  And.intro @ty1 <|
  And.intro @ty2 <|
  And.intro @un2 <|
  And.intro @ty3 <|
  And.intro @un3 <|
  And.intro @ty4 <|
  And.intro @un4 <|
  And.intro @ty5 <|
  And.intro @un5 <|
  And.intro @ty7 <|
  And.intro @fOff7_0 <|
  And.intro @fOff7_1 <|
  And.intro @fOff7_2 <|
  And.intro @fOff7_3 <|
  And.intro @spl7 <|
  And.intro @ty9 <|
  And.intro @ty12 <|
  And.intro @un12 <|
  And.intro @ty13 <|
  And.intro @fOff13_0 <|
  And.intro @fOff13_1 <|
  And.intro @spl13 <|
  And.intro @ty15 <|
  And.intro @un15 <|
  And.intro @ty16 <|
  And.intro @un16 <|
  And.intro @ty17 <|
  And.intro @un17 <|
  And.intro @ty18 <|
  And.intro @fOff18_0 <|
  And.intro @spl18 <|
  And.intro @ty21 <|
  And.intro @un21 <|
  And.intro @ty22 <|
  And.intro @slE22 <|
  And.intro @slTy22 <|
  And.intro @un22 <|
  And.intro @ty23 <|
  And.intro @slE23 <|
  @slTy23
theorem tys1 : type_of% (
  And.intro @un23 <|
  And.intro @ty24 <|
  And.intro @slE24 <|
  And.intro @slTy24 <|
  And.intro @un24 <|
  And.intro @ty25 <|
  And.intro @fOff25_0 <|
  And.intro @fOff25_1 <|
  And.intro @fOff25_2 <|
  And.intro @fOff25_3 <|
  And.intro @fOff25_4 <|
  And.intro @fOff25_5 <|
  And.intro @fOff25_6 <|
  And.intro @fOff25_7 <|
  And.intro @spl25 <|
  And.intro @ty26 <|
  And.intro @fOff26_0 <|
  And.intro @fOff26_1 <|
  And.intro @fOff26_2 <|
  And.intro @fOff26_3 <|
  And.intro @fOff26_4 <|
  And.intro @fOff26_5 <|
  And.intro @fOff26_6 <|
  And.intro @fOff26_7 <|
  And.intro @spl26 <|
  And.intro @ty27 <|
  And.intro @fOff27_0 <|
  And.intro @fOff27_1 <|
  And.intro @fOff27_2 <|
  And.intro @spl27 <|
  And.intro @ty28 <|
  And.intro @fOff28_0 <|
  And.intro @fOff28_1 <|
  And.intro @fOff28_2 <|
  And.intro @spl28 <|
  And.intro @ty29 <|
  And.intro @ty30 <|
  And.intro @ty32 <|
  And.intro @ty33 <|
  @ty34) :=
  And.intro @un23 <|
  And.intro @ty24 <|
  And.intro @slE24 <|
  And.intro @slTy24 <|
  And.intro @un24 <|
  And.intro @ty25 <|
  And.intro @fOff25_0 <|
  And.intro @fOff25_1 <|
  And.intro @fOff25_2 <|
  And.intro @fOff25_3 <|
  And.intro @fOff25_4 <|
  And.intro @fOff25_5 <|
  And.intro @fOff25_6 <|
  And.intro @fOff25_7 <|
  And.intro @spl25 <|
  And.intro @ty26 <|
  And.intro @fOff26_0 <|
  And.intro @fOff26_1 <|
  And.intro @fOff26_2 <|
  And.intro @fOff26_3 <|
  And.intro @fOff26_4 <|
  And.intro @fOff26_5 <|
  And.intro @fOff26_6 <|
  And.intro @fOff26_7 <|
  And.intro @spl26 <|
  And.intro @ty27 <|
  And.intro @fOff27_0 <|
  And.intro @fOff27_1 <|
  And.intro @fOff27_2 <|
  And.intro @spl27 <|
  And.intro @ty28 <|
  And.intro @fOff28_0 <|
  And.intro @fOff28_1 <|
  And.intro @fOff28_2 <|
  And.intro @spl28 <|
  And.intro @ty29 <|
  And.intro @ty30 <|
  And.intro @ty32 <|
  And.intro @ty33 <|
  @ty34
theorem tys2 : type_of% (
  And.intro @un34 <|
  And.intro @ty36 <|
  And.intro @ty37 <|
  And.intro @ty38 <|
  And.intro @ty39 <|
  And.intro @ty40 <|
  And.intro @slE40 <|
  And.intro @slTy40 <|
  And.intro @un40 <|
  And.intro @ty41 <|
  And.intro @ty42 <|
  And.intro @ty43 <|
  And.intro @ty44 <|
  And.intro @ty45 <|
  And.intro @ty46 <|
  And.intro @ty47 <|
  And.intro @slE47 <|
  And.intro @slTy47 <|
  And.intro @un47 <|
  And.intro @ty48 <|
  And.intro @ty49 <|
  And.intro @ty50 <|
  And.intro @ty51 <|
  And.intro @ty52 <|
  And.intro @ty53 <|
  And.intro @ty54 <|
  And.intro @ty55 <|
  And.intro @ty56 <|
  And.intro @ty57 <|
  And.intro @ty58 <|
  And.intro @ty59 <|
  And.intro @slE59 <|
  And.intro @slTy59 <|
  And.intro @un59 <|
  And.intro @ty60 <|
  And.intro @ty62 <|
  And.intro @ty63 <|
  And.intro @un63 <|
  And.intro @ty64 <|
  @ty65) :=
  And.intro @un34 <|
  And.intro @ty36 <|
  And.intro @ty37 <|
  And.intro @ty38 <|
  And.intro @ty39 <|
  And.intro @ty40 <|
  And.intro @slE40 <|
  And.intro @slTy40 <|
  And.intro @un40 <|
  And.intro @ty41 <|
  And.intro @ty42 <|
  And.intro @ty43 <|
  And.intro @ty44 <|
  And.intro @ty45 <|
  And.intro @ty46 <|
  And.intro @ty47 <|
  And.intro @slE47 <|
  And.intro @slTy47 <|
  And.intro @un47 <|
  And.intro @ty48 <|
  And.intro @ty49 <|
  And.intro @ty50 <|
  And.intro @ty51 <|
  And.intro @ty52 <|
  And.intro @ty53 <|
  And.intro @ty54 <|
  And.intro @ty55 <|
  And.intro @ty56 <|
  And.intro @ty57 <|
  And.intro @ty58 <|
  And.intro @ty59 <|
  And.intro @slE59 <|
  And.intro @slTy59 <|
  And.intro @un59 <|
  And.intro @ty60 <|
  And.intro @ty62 <|
  And.intro @ty63 <|
  And.intro @un63 <|
  And.intro @ty64 <|
  @ty65
theorem tys3 : type_of% (
  And.intro @ty66 <|
  And.intro @ty67 <|
  And.intro @slE67 <|
  And.intro @slTy67 <|
  And.intro @un67 <|
  And.intro @ty68 <|
  And.intro @ty69 <|
  And.intro @un69 <|
  And.intro @ty70 <|
  And.intro @fOff70_0 <|
  And.intro @fOff70_1 <|
  And.intro @fOff70_2 <|
  And.intro @fOff70_3 <|
  And.intro @fOff70_4 <|
  And.intro @spl70 <|
  And.intro @ty71 <|
  And.intro @fOff71_0 <|
  And.intro @fOff71_1 <|
  And.intro @fOff71_2 <|
  And.intro @fOff71_3 <|
  And.intro @fOff71_4 <|
  And.intro @spl71 <|
  And.intro @ty72 <|
  And.intro @ty73 <|
  And.intro @ty74 <|
  And.intro @un74 <|
  And.intro @ty75 <|
  And.intro @ty76 <|
  And.intro @ty77 <|
  And.intro @ty78 <|
  And.intro @fOff78_0 <|
  And.intro @fOff78_1 <|
  And.intro @spl78 <|
  And.intro @ty79 <|
  And.intro @fOff79_0 <|
  And.intro @fOff79_1 <|
  And.intro @spl79 <|
  And.intro @ty80 <|
  And.intro @ty81 <|
  @ty82) :=
  And.intro @ty66 <|
  And.intro @ty67 <|
  And.intro @slE67 <|
  And.intro @slTy67 <|
  And.intro @un67 <|
  And.intro @ty68 <|
  And.intro @ty69 <|
  And.intro @un69 <|
  And.intro @ty70 <|
  And.intro @fOff70_0 <|
  And.intro @fOff70_1 <|
  And.intro @fOff70_2 <|
  And.intro @fOff70_3 <|
  And.intro @fOff70_4 <|
  And.intro @spl70 <|
  And.intro @ty71 <|
  And.intro @fOff71_0 <|
  And.intro @fOff71_1 <|
  And.intro @fOff71_2 <|
  And.intro @fOff71_3 <|
  And.intro @fOff71_4 <|
  And.intro @spl71 <|
  And.intro @ty72 <|
  And.intro @ty73 <|
  And.intro @ty74 <|
  And.intro @un74 <|
  And.intro @ty75 <|
  And.intro @ty76 <|
  And.intro @ty77 <|
  And.intro @ty78 <|
  And.intro @fOff78_0 <|
  And.intro @fOff78_1 <|
  And.intro @spl78 <|
  And.intro @ty79 <|
  And.intro @fOff79_0 <|
  And.intro @fOff79_1 <|
  And.intro @spl79 <|
  And.intro @ty80 <|
  And.intro @ty81 <|
  @ty82
theorem tys4 : type_of% (
  And.intro @ty83 <|
  And.intro @ty84 <|
  And.intro @ty85 <|
  And.intro @ty86 <|
  And.intro @ty87 <|
  And.intro @ty88 <|
  And.intro @ty89 <|
  And.intro @ty90 <|
  And.intro @ty91 <|
  And.intro @fOff91_0 <|
  And.intro @spl91 <|
  And.intro @ty92 <|
  And.intro @fOff92_0 <|
  And.intro @spl92 <|
  And.intro @ty93 <|
  And.intro @ty94 <|
  And.intro @ty95 <|
  And.intro @ty96 <|
  And.intro @ty97 <|
  And.intro @ty99 <|
  And.intro @ty101 <|
  And.intro @ty102 <|
  And.intro @fOff102_0 <|
  And.intro @fOff102_1 <|
  And.intro @fOff102_2 <|
  And.intro @spl102 <|
  And.intro @ty103 <|
  And.intro @fOff103_0 <|
  And.intro @fOff103_1 <|
  And.intro @fOff103_2 <|
  And.intro @spl103 <|
  And.intro @ty104 <|
  And.intro @ty105 <|
  And.intro @ty106 <|
  And.intro @ty107 <|
  And.intro @un107 <|
  And.intro @ty108 <|
  And.intro @ty109 <|
  And.intro @un109 <|
  @ty110) :=
  And.intro @ty83 <|
  And.intro @ty84 <|
  And.intro @ty85 <|
  And.intro @ty86 <|
  And.intro @ty87 <|
  And.intro @ty88 <|
  And.intro @ty89 <|
  And.intro @ty90 <|
  And.intro @ty91 <|
  And.intro @fOff91_0 <|
  And.intro @spl91 <|
  And.intro @ty92 <|
  And.intro @fOff92_0 <|
  And.intro @spl92 <|
  And.intro @ty93 <|
  And.intro @ty94 <|
  And.intro @ty95 <|
  And.intro @ty96 <|
  And.intro @ty97 <|
  And.intro @ty99 <|
  And.intro @ty101 <|
  And.intro @ty102 <|
  And.intro @fOff102_0 <|
  And.intro @fOff102_1 <|
  And.intro @fOff102_2 <|
  And.intro @spl102 <|
  And.intro @ty103 <|
  And.intro @fOff103_0 <|
  And.intro @fOff103_1 <|
  And.intro @fOff103_2 <|
  And.intro @spl103 <|
  And.intro @ty104 <|
  And.intro @ty105 <|
  And.intro @ty106 <|
  And.intro @ty107 <|
  And.intro @un107 <|
  And.intro @ty108 <|
  And.intro @ty109 <|
  And.intro @un109 <|
  @ty110
theorem tys5 : type_of% (
  And.intro @ty111 <|
  And.intro @ty112 <|
  And.intro @ty113 <|
  And.intro @ty114 <|
  And.intro @ty115 <|
  And.intro @ty116 <|
  And.intro @slE116 <|
  And.intro @arE116 <|
  And.intro @spl116 <|
  And.intro @ty117 <|
  And.intro @ty118 <|
  And.intro @un118 <|
  And.intro @ty119 <|
  And.intro @ty120 <|
  And.intro @ty121 <|
  And.intro @ty122 <|
  And.intro @ty123 <|
  And.intro @ty124 <|
  And.intro @ty125 <|
  And.intro @ty126 <|
  And.intro @slE126 <|
  And.intro @slTy126 <|
  And.intro @un126 <|
  And.intro @ty127 <|
  And.intro @ty128 <|
  And.intro @slE128 <|
  And.intro @slTy128 <|
  And.intro @un128 <|
  And.intro @ty129 <|
  And.intro @ty130 <|
  And.intro @ty131 <|
  And.intro @fOff131_0 <|
  And.intro @fOff131_1 <|
  And.intro @fOff131_2 <|
  And.intro @fOff131_3 <|
  And.intro @spl131 <|
  And.intro @ty133 <|
  And.intro @slE133 <|
  And.intro @arE133 <|
  @spl133) :=
  And.intro @ty111 <|
  And.intro @ty112 <|
  And.intro @ty113 <|
  And.intro @ty114 <|
  And.intro @ty115 <|
  And.intro @ty116 <|
  And.intro @slE116 <|
  And.intro @arE116 <|
  And.intro @spl116 <|
  And.intro @ty117 <|
  And.intro @ty118 <|
  And.intro @un118 <|
  And.intro @ty119 <|
  And.intro @ty120 <|
  And.intro @ty121 <|
  And.intro @ty122 <|
  And.intro @ty123 <|
  And.intro @ty124 <|
  And.intro @ty125 <|
  And.intro @ty126 <|
  And.intro @slE126 <|
  And.intro @slTy126 <|
  And.intro @un126 <|
  And.intro @ty127 <|
  And.intro @ty128 <|
  And.intro @slE128 <|
  And.intro @slTy128 <|
  And.intro @un128 <|
  And.intro @ty129 <|
  And.intro @ty130 <|
  And.intro @ty131 <|
  And.intro @fOff131_0 <|
  And.intro @fOff131_1 <|
  And.intro @fOff131_2 <|
  And.intro @fOff131_3 <|
  And.intro @spl131 <|
  And.intro @ty133 <|
  And.intro @slE133 <|
  And.intro @arE133 <|
  @spl133
theorem tys6 : type_of% (
  And.intro @ty134 <|
  And.intro @spl134 <|
  And.intro @ty136 <|
  And.intro @un136 <|
  And.intro @ty139 <|
  And.intro @ty140 <|
  And.intro @un140 <|
  And.intro @ty143 <|
  And.intro @fOff143_0 <|
  And.intro @fOff143_1 <|
  And.intro @fOff143_2 <|
  And.intro @fOff143_3 <|
  And.intro @fOff143_4 <|
  And.intro @fOff143_5 <|
  And.intro @fOff143_6 <|
  And.intro @fOff143_7 <|
  And.intro @fOff143_8 <|
  And.intro @fOff143_9 <|
  And.intro @fOff143_10 <|
  @spl143) :=
  And.intro @ty134 <|
  And.intro @spl134 <|
  And.intro @ty136 <|
  And.intro @un136 <|
  And.intro @ty139 <|
  And.intro @ty140 <|
  And.intro @un140 <|
  And.intro @ty143 <|
  And.intro @fOff143_0 <|
  And.intro @fOff143_1 <|
  And.intro @fOff143_2 <|
  And.intro @fOff143_3 <|
  And.intro @fOff143_4 <|
  And.intro @fOff143_5 <|
  And.intro @fOff143_6 <|
  And.intro @fOff143_7 <|
  And.intro @fOff143_8 <|
  And.intro @fOff143_9 <|
  And.intro @fOff143_10 <|
  @spl143
theorem tysA : type_of% (
  And.intro @tys0 <|
  And.intro @tys1 <|
  And.intro @tys2 <|
  And.intro @tys3 <|
  And.intro @tys4 <|
  And.intro @tys5 <|
  @tys6) :=
  And.intro @tys0 <|
  And.intro @tys1 <|
  And.intro @tys2 <|
  And.intro @tys3 <|
  And.intro @tys4 <|
  And.intro @tys5 <|
  @tys6
end Go.Proofs.Ytafbdphblilenaa

/- The data of the chapters as lists, and how they stand in memory. -/
namespace Go.Proofs.Ytafbdphblilenaa
open Go.VL

def iD (n : Int) : D := .sc (.int .i64 n)
def bD (b : Bool) : D := .sc (.bool b)
def i64 (n : Int) : V := .d (.sc (.int .i64 n))
def bV (b : Bool) : V := .d (.sc (.bool b))
/-- A slice of integers. -/
abbrev intsD (l : List Int) : D := .sl (l.map fun x => [iD x])

theorem w64 (n : Int) (h : -9223372036854775808 ≤ n ∧ n ≤ 9223372036854775807) : IntKind.i64.wrap n = n := IntWalk.i64_in n h

def spanC (s : Int × Int) : List D := [iD s.1, iD s.2]

/-- A tree. -/
inductive Re where
  | mk (op : Int) (set : List (Int × Int)) (kids : List Re) (mn mx mode n : Int) (neg : Bool)

def Re.op : Re → Int | .mk x _ _ _ _ _ _ _ => x
def Re.set : Re → List (Int × Int) | .mk _ x _ _ _ _ _ _ => x
def Re.kids : Re → List Re | .mk _ _ x _ _ _ _ _ => x
def Re.mn : Re → Int | .mk _ _ _ x _ _ _ _ => x
def Re.mx : Re → Int | .mk _ _ _ _ x _ _ _ => x
def Re.mode : Re → Int | .mk _ _ _ _ _ x _ _ => x
def Re.n : Re → Int | .mk _ _ _ _ _ _ x _ => x
def Re.neg : Re → Bool | .mk _ _ _ _ _ _ _ x => x

mutual
def Re.cells : Re → List D
  | .mk op set kids mn mx mode n neg => [iD op, .sl (set.map spanC), .sl (Re.cellsL kids), iD mn, iD mx, iD mode, iD n, bD neg]
def Re.cellsL : List Re → List (List D)
  | [] => []
  | k :: l => k.cells :: Re.cellsL l
end

theorem Re.cellsL_eq : ∀ l : List Re, Re.cellsL l = l.map Re.cells
  | [] => by simp [Re.cellsL]
  | k :: l => by simp [Re.cellsL, Re.cellsL_eq l]

theorem Re.cells_eq (re : Re) : re.cells = [iD re.op, .sl (re.set.map spanC), .sl (re.kids.map Re.cells), iD re.mn, iD re.mx, iD re.mode, iD re.n, bD re.neg] := by
  cases re; simp [Re.cells, Re.cellsL_eq, Re.op, Re.set, Re.kids, Re.mn, Re.mx, Re.mode, Re.n, Re.neg]

theorem Re.cells_len (re : Re) : re.cells.length = 8 := by rw [Re.cells_eq]; rfl

def reV (re : Re) : V := .ag (re.cells.map .d)

theorem take_cells (re : Re) : (re.cells.map V.d).take 8 = re.cells.map V.d := List.take_of_length_le (by simp [Re.cells_len])

theorem drop_cells (re : Re) : (re.cells.map V.d).drop 8 = [] := List.drop_of_length_le (by simp [Re.cells_len])

theorem reV_fold (re : Re) : V.ag (re.cells.map V.d) = reV re := rfl

theorem reV_eq (re : Re) : reV re = .ag [.d (iD re.op), .d (.sl (re.set.map spanC)), .d (.sl (re.kids.map Re.cells)), .d (iD re.mn), .d (iD re.mx), .d (iD re.mode), .d (iD re.n), .d (bD re.neg)] := by
  rw [reV, Re.cells_eq]; rfl

theorem renV_reV (ρ : List Nat) (re : Re) : renV ρ (reV re) = reV re := by rw [reV_eq]; rfl

/-- A pointer to a tree. -/
def reEl (re : Re) : V := .d (.el re.cells)

theorem elP_map {α : Type} (l : List α) (f : α → List D) (i z : Nat) (K : V → Prop) : elP (l.map f) i z K = match l[i]? with | none => False | some x => (f x).length = z ∧ K (.d (.el (f x))) := by
  unfold elP
  rw [List.getElem?_map]
  cases l[i]? <;> rfl

mutual
def Re.size : Re → Nat
  | .mk _ _ kids _ _ _ _ _ => 1 + Re.sizeL kids
def Re.sizeL : List Re → Nat
  | [] => 0
  | k :: l => k.size + Re.sizeL l
end

theorem Re.size_eq (re : Re) : re.size = 1 + Re.sizeL re.kids := by cases re; simp [Re.size, Re.kids]

theorem Re.size_pos (re : Re) : 0 < re.size := by rw [Re.size_eq]; omega

theorem Re.sizeL_mem : ∀ {l : List Re} {k : Re}, k ∈ l → k.size ≤ Re.sizeL l
  | k' :: l, k, h => by
    simp only [Re.sizeL]
    rcases List.mem_cons.1 h with rfl | h
    · omega
    · have := Re.sizeL_mem h; omega

theorem Re.size_kid {re k : Re} (h : k ∈ re.kids) : k.size < re.size := by
  have := Re.sizeL_mem h
  rw [Re.size_eq re]; omega

theorem Re.len_le : ∀ l : List Re, l.length ≤ Re.sizeL l
  | [] => by simp
  | k :: l => by simp only [List.length_cons, Re.sizeL]; have := Re.len_le l; have := k.size_pos; omega

/-- The first elements of a list and the next one. -/
theorem take_get {α : Type} {l : List α} {i : Nat} {x : α} (h : l[i]? = some x) : l.take (i + 1) = l.take i ++ [x] := by
  rw [List.take_add_one, h]; rfl

theorem Re.sizeL_append : ∀ a b : List Re, Re.sizeL (a ++ b) = Re.sizeL a + Re.sizeL b
  | [], b => by simp [Re.sizeL]
  | k :: l, b => by simp only [List.cons_append, Re.sizeL, Re.sizeL_append l b]; omega

theorem Re.sizeL_take (l : List Re) (i : Nat) : Re.sizeL (l.take i) ≤ Re.sizeL l := by
  conv => rhs; rw [← List.take_append_drop i l]
  rw [Re.sizeL_append]; omega

theorem cellsV_reV (re : Re) : cellsV (reV re) = some (re.cells.map V.d) := rfl

theorem mapM_some {α β : Type} (f : α → Option β) (g : β → α) (h : ∀ x, f (g x) = some x) : ∀ l : List β, (l.map g).mapM f = some l
  | [] => rfl
  | x :: l => by rw [List.map_cons, List.mapM_cons, h, mapM_some f g h l]; rfl

theorem mapM_toD (cs : List D) : (cs.map V.d).mapM toD = some cs := mapM_some toD V.d (fun _ => rfl) cs

theorem frzD_d (n lim : Nat) (s : List VL.Obj) (x : D) : frzD n lim s (.d x) = some x := by cases n <;> rfl

theorem mapM_frzD (n lim : Nat) (s : List VL.Obj) (cs : List D) : (cs.map V.d).mapM (frzD n lim s) = some cs := mapM_some (frzD n lim s) V.d (frzD_d n lim s) cs

theorem mapM_frzE (n lim : Nat) (s : List VL.Obj) (l : List (List D)) : (l.map fun c => c.map V.d).mapM (fun (e : List V) => e.mapM (frzD n lim s)) = some l := mapM_some (fun (e : List V) => e.mapM (frzD n lim s)) (fun c => c.map V.d) (mapM_frzD n lim s) l

/-- Induction over trees, by their size. -/
theorem Re.ind {Q : Re → Prop} (h : ∀ re, (∀ k ∈ re.kids, Q k) → Q re) (re : Re) : Q re := by
  induction hn : re.size using Nat.strongRecOn generalizing re with
  | _ n ih => exact h re fun k hk => ih k.size (by have := Re.size_kid hk; omega) k rfl

/-- The equations for simp, as one. -/
theorem vsB : type_of% (
  And.intro @cellsV_reV <|
  And.intro @mapM_toD <|
  And.intro @mapM_frzD <|
  And.intro @mapM_frzE <|
  And.intro @frzD_d <|
  And.intro @Re.cells_len <|
  And.intro @take_cells <|
  And.intro @drop_cells <|
  @reV_fold) :=
  And.intro @cellsV_reV <|
  And.intro @mapM_toD <|
  And.intro @mapM_frzD <|
  And.intro @mapM_frzE <|
  And.intro @frzD_d <|
  And.intro @Re.cells_len <|
  And.intro @take_cells <|
  And.intro @drop_cells <|
  @reV_fold

end Go.Proofs.Ytafbdphblilenaa

set_option linter.unusedSimpArgs false
set_option linter.unusedVariables false
namespace Go.Proofs.Ytafbdphblilenaa
open Go.VL
set_option maxHeartbeats 1000000 in
theorem refSize_ok (re : Re) : re.size ≤ 1000000000 → PureOK Try.prog 42 [reV re] (i64 re.size) := by
  induction re using Re.ind with
  | h re ih =>
  intro hs
  have hlen := Re.len_le re.kids
  have hsz := Re.size_eq re
  refine fn_ok Try.func42 rfl Try.ntmps42 Try.results42 rfl 0 31 (by simp) (by simp) ?_
  simp only [vsA, vsB, vsC, appendWp, Nat.reduceShiftRight, Nat.reduceMod, Nat.reduceLT, Nat.reduceMul, Nat.reduceSub, Int.reduceToNat, Int.reduceNeg, Int.reduceLT, Int.reduceLE, Int.reduceEq, Nat.reduceEqDiff, Nat.reduceAdd, Nat.reduceLeDiff, reduceIte, reduceCtorEq, Nat.reduceBEq, tysA, reV_eq re, iD, bD]
  refine loop_rule (fun n e s => ∃ i : Nat, n = re.kids.length - i ∧ i ≤ re.kids.length ∧ e 1 = .rf 0 0 0 0 ∧ e 3 = i64 (1 + Re.sizeL (re.kids.take i) : Nat) ∧ e 4 = i64 i ∧ s = [⟨0, true, 8, [re.cells.map .d]⟩]) ⟨_, _, _, Cln.refl, 0, rfl, by simp, rfl, rfl, rfl, by simp [Re.cells_eq re, iD, bD]⟩ ?_
  rintro n e s ⟨i, rfl, hi, h1, h3, h4, rfl⟩
  rcases Nat.lt_or_ge i re.kids.length with hlt | hge
  · obtain ⟨k, hk⟩ : ∃ k, re.kids[i]? = some k := ⟨_, List.getElem?_eq_getElem hlt⟩
    have hm := List.mem_of_getElem? hk
    have hks := Re.size_kid hm
    simp only [vsA, vsB, vsC, appendWp, Nat.reduceShiftRight, Nat.reduceMod, Nat.reduceLT, Nat.reduceMul, Nat.reduceSub, Int.reduceToNat, Int.reduceNeg, Int.reduceLT, Int.reduceLE, Int.reduceEq, Nat.reduceEqDiff, Nat.reduceAdd, Nat.reduceLeDiff, reduceIte, reduceCtorEq, Nat.reduceBEq, tysA, Re.cells_eq re, iD, bD, h1, h3, h4, i64, hlt, hk]
    refine call_pure (ih k hm (by omega)) (by simp [refsV, refsV.go, reV_eq, i64, bV, reEl]) (by simp [refsV, refsV.go, reV_eq, i64, bV, reEl]) ?_
    have h5 := Re.sizeL_take re.kids (i + 1)
    rw [take_get hk, Re.sizeL_append] at h5
    simp only [Re.sizeL] at h5
    simp only [vsA, vsB, vsC, appendWp, Nat.reduceShiftRight, Nat.reduceMod, Nat.reduceLT, Nat.reduceMul, Nat.reduceSub, Int.reduceToNat, Int.reduceNeg, Int.reduceLT, Int.reduceLE, Int.reduceEq, Nat.reduceEqDiff, Nat.reduceAdd, Nat.reduceLeDiff, reduceIte, reduceCtorEq, Nat.reduceBEq, tysA, Re.cells_eq re, iD, bD, h1, h3, h4, i64, hlt, hk]
    refine ⟨_, _, _, ?_, Cln.refl, i + 1, rfl, hlt, ?_⟩
    · omega
    simp only [updE, Nat.reduceEqDiff, if_true, if_false]
    refine ⟨h1, ?_, ?_, by simp [Re.cells_eq re, iD, bD]⟩
    · rw [w64 _ (by omega), take_get hk, Re.sizeL_append]; simp only [Re.sizeL, i64]; congr 3; omega
    · rw [w64 _ (by omega)]; rfl
  · have hie : i = re.kids.length := by omega
    subst hie
    simp only [vsA, vsB, vsC, appendWp, Nat.reduceShiftRight, Nat.reduceMod, Nat.reduceLT, Nat.reduceMul, Nat.reduceSub, Int.reduceToNat, Int.reduceNeg, Int.reduceLT, Int.reduceLE, Int.reduceEq, Nat.reduceEqDiff, Nat.reduceAdd, Nat.reduceLeDiff, reduceIte, reduceCtorEq, Nat.reduceBEq, tysA, Re.cells_eq re, iD, bD, h1, h3, h4, i64, Nat.lt_irrefl]
    simp [hsz]
end Go.Proofs.Ytafbdphblilenaa

set_option linter.unusedSimpArgs false
set_option linter.unusedVariables false
namespace Go.Proofs.Ytafbdphblilenaa
open Go.VL

theorem mix : Try.prog.follows .mixedOrders = true := by rfl

def I64 (n : Int) : Prop := -9223372036854775808 ≤ n ∧ n ≤ 9223372036854775807

def around (n most : Int) : Int := if n < 0 then (-(n+1)).tmod most else n.tmod most

set_option maxHeartbeats 400000 in
theorem around_ok (n m : Int) (hm : 1 ≤ m) (hn : I64 n) : PureOK Try.prog 13 [i64 n, i64 m] (i64 (around n m)) := by
  unfold I64 at hn
  refine fn_ok Try.func13 rfl Try.ntmps13 Try.results13 rfl 0 19 (by simp) (by simp) ?_
  simp only [vsA, vsB, vsC, appendWp, Nat.reduceShiftRight, Nat.reduceMod, Nat.reduceLT, Nat.reduceMul, Nat.reduceSub, Int.reduceToNat, Int.reduceNeg, Int.reduceLT, Int.reduceLE, Int.reduceEq, Nat.reduceEqDiff, Nat.reduceAdd, Nat.reduceLeDiff, reduceIte, reduceCtorEq, Nat.reduceBEq, i64]
  refine ⟨fun h => ⟨by omega, ?_⟩, fun h => ⟨by omega, ?_⟩⟩
  · rw [w64 (n + 1) (by omega), w64 _ (by omega)]
    simp [around, h]
  · simp [around, h]

/-- An element of a list of numbers, below a bound. -/
def pick (l : List Int) (i : Int) (most : Int) : Int := if i < 0 ∨ l.length ≤ i then 0 else around (l[i.toNat]?.getD 0) most

set_option maxHeartbeats 400000 in
theorem pick_ok (l : List Int) (hl : ∀ x ∈ l, I64 x) (i m : Int) (hm : 1 ≤ m) : PureOK Try.prog 117 [.d (intsD l), i64 i, i64 m] (i64 (pick l i m)) := by
  refine fn_ok Try.func117 rfl Try.ntmps117 Try.results117 rfl 0 71 (by simp) (by simp) ?_
  by_cases h0 : i < 0
  · simp only [vsA, vsB, vsC, appendWp, Nat.reduceShiftRight, Nat.reduceMod, Nat.reduceLT, Nat.reduceMul, Nat.reduceSub, Int.reduceToNat, Int.reduceNeg, Int.reduceLT, Int.reduceLE, Int.reduceEq, Nat.reduceEqDiff, Nat.reduceAdd, Nat.reduceLeDiff, reduceIte, reduceCtorEq, Nat.reduceBEq, tysA, i64, intsD, iD, h0]
    simp [h0, pick]
  · by_cases h1 : (l.length : Int) ≤ i
    · simp only [vsA, vsB, vsC, appendWp, Nat.reduceShiftRight, Nat.reduceMod, Nat.reduceLT, Nat.reduceMul, Nat.reduceSub, Int.reduceToNat, Int.reduceNeg, Int.reduceLT, Int.reduceLE, Int.reduceEq, Nat.reduceEqDiff, Nat.reduceAdd, Nat.reduceLeDiff, reduceIte, reduceCtorEq, Nat.reduceBEq, tysA, i64, intsD, iD, h0, h1, ge_iff_le]
      simp [h0, pick]; omega
    · have hlt : i.toNat < l.length := by omega
      obtain ⟨x, hx⟩ : ∃ x, l[i.toNat]? = some x := ⟨_, List.getElem?_eq_getElem hlt⟩
      simp only [vsA, vsB, vsC, appendWp, Nat.reduceShiftRight, Nat.reduceMod, Nat.reduceLT, Nat.reduceMul, Nat.reduceSub, Int.reduceToNat, Int.reduceNeg, Int.reduceLT, Int.reduceLE, Int.reduceEq, Nat.reduceEqDiff, Nat.reduceAdd, Nat.reduceLeDiff, reduceIte, reduceCtorEq, Nat.reduceBEq, tysA, i64, intsD, iD, h0, h1, ge_iff_le, hx, show 0 ≤ i by omega, show i < l.length by omega]
      refine call_pure (around_ok x m hm (hl x (List.mem_of_getElem? hx))) rfl rfl ?_
      simp only [vsA, vsB, vsC, appendWp, Nat.reduceShiftRight, Nat.reduceMod, Nat.reduceLT, Nat.reduceMul, Nat.reduceSub, Int.reduceToNat, Int.reduceNeg, Int.reduceLT, Int.reduceLE, Int.reduceEq, Nat.reduceEqDiff, Nat.reduceAdd, Nat.reduceLeDiff, reduceIte, reduceCtorEq, Nat.reduceBEq, tysA, i64]
      simp [h0, pick, hx]; omega
end Go.Proofs.Ytafbdphblilenaa

set_option linter.unusedSimpArgs false
set_option linter.unusedVariables false
namespace Go.Proofs.Ytafbdphblilenaa
open Go.VL

/-- The maker of trees. -/
structure Mk where
  l : List Int
  pos : Int
  uses : Int
  left : Int
  caps : Int

def mkO (m : Mk) : VL.Obj := ⟨0, true, 5, [[.d (intsD m.l), i64 m.pos, i64 m.uses, i64 m.left, i64 m.caps]]⟩
def mkV : V := .rf 0 0 0 0

/-- What always holds of it. -/
structure Mk.ok (m : Mk) : Prop where
  l : ∀ x ∈ m.l, I64 x
  pos : 0 ≤ m.pos ∧ m.pos ≤ 1000000000
  left : -1000000000 ≤ m.left ∧ m.left ≤ 1000000000
  caps : 0 ≤ m.caps ∧ m.caps ≤ 1000000000

def Mk.next (m : Mk) (n : Int) : Int × Mk := (pick m.l m.pos n, { m with pos := m.pos + 1 })

set_option maxHeartbeats 400000 in
theorem next_ok (m : Mk) (hl : ∀ x ∈ m.l, I64 x) (hp : 0 ≤ m.pos ∧ m.pos ≤ 1000000000) (n : Int) (hn : 1 ≤ n) : callWp Try.prog 99 [mkV, i64 n] [mkO m] fun v s => v = i64 (m.next n).1 ∧ s = [mkO (m.next n).2] := by
  have w1 : IntKind.i64.wrap (m.pos + 1) = m.pos + 1 := w64 _ (by omega)
  have w2 : IntKind.i64.wrap (m.pos + 1 - 1) = m.pos := by rw [w64 _ (by omega)]; omega
  refine fn_ok Try.func99 rfl Try.ntmps99 Try.results99 rfl 1 19 (by simp) (by simp) ?_
  simp only [vsA, vsB, vsC, appendWp, Nat.reduceShiftRight, Nat.reduceMod, Nat.reduceLT, Nat.reduceMul, Nat.reduceSub, Int.reduceToNat, Int.reduceNeg, Int.reduceLT, Int.reduceLE, Int.reduceEq, Nat.reduceEqDiff, Nat.reduceAdd, Nat.reduceLeDiff, reduceIte, reduceCtorEq, Nat.reduceBEq, tysA, i64, mkV, mkO, w1, w2]
  refine draw_c mix [] [] (by rfl) ?_
  simp only [vsA, vsB, vsC, appendWp, Nat.reduceShiftRight, Nat.reduceMod, Nat.reduceLT, Nat.reduceMul, Nat.reduceSub, Int.reduceToNat, Int.reduceNeg, Int.reduceLT, Int.reduceLE, Int.reduceEq, Nat.reduceEqDiff, Nat.reduceAdd, Nat.reduceLeDiff, reduceIte, reduceCtorEq, Nat.reduceBEq, tysA, i64, mkV, mkO, w1, w2]
  refine callC_pure (pick_ok m.l hl m.pos n hn) rfl rfl ?_
  simp only [vsA, vsB, vsC, appendWp, Nat.reduceShiftRight, Nat.reduceMod, Nat.reduceLT, Nat.reduceMul, Nat.reduceSub, Int.reduceToNat, Int.reduceNeg, Int.reduceLT, Int.reduceLE, Int.reduceEq, Nat.reduceEqDiff, Nat.reduceAdd, Nat.reduceLeDiff, reduceIte, reduceCtorEq, Nat.reduceBEq, tysA, i64, mkV, mkO, w1, w2, Mk.next]

/-! ### Sets -/

def setSpans : List (List (Int × Int)) := [[(97, 97)], [(98, 98)], [(97, 98)], [(99, 99)], [(97, 99)], [(0, 96), (98, 255)], [(10, 10), (97, 97)], []]

def Re.ofSet (set : List (Int × Int)) : Re := .mk 1 set [] 0 0 0 0 false

def Mk.set (m : Mk) : Re × Mk :=
  let (k, m1) := m.next 15
  (Re.ofSet ((setSpans[(k / 2).toNat]?).getD []), m1)

theorem pick_range (l : List Int) (i m : Int) (hm : 1 ≤ m) : 0 ≤ pick l i m ∧ pick l i m < m := by
  unfold pick around
  split
  · omega
  · split
    · rename_i h
      have h1 : 0 ≤ -(l[i.toNat]?.getD 0 + 1) := by omega
      exact ⟨Int.tmod_nonneg _ h1, Int.tmod_lt_of_pos _ (by omega)⟩
    · rename_i h
      exact ⟨Int.tmod_nonneg _ (by omega), Int.tmod_lt_of_pos _ (by omega)⟩

set_option maxHeartbeats 1000000 in
theorem set_ok (m : Mk) (hl : ∀ x ∈ m.l, I64 x) (hp : 0 ≤ m.pos ∧ m.pos ≤ 1000000000) : callWp Try.prog 100 [mkV] [mkO m] fun v s => v = reV m.set.1 ∧ s = [mkO m.set.2] := by
  have hk := pick_range m.l m.pos 15 (by omega)
  have hd : (pick m.l m.pos 15).tdiv 2 = pick m.l m.pos 15 / 2 := by rw [Int.tdiv_eq_ediv_of_nonneg hk.1]
  have w1 : IntKind.i64.wrap (pick m.l m.pos 15 / 2) = pick m.l m.pos 15 / 2 := w64 _ (by omega)
  refine fn_ok Try.func100 rfl Try.ntmps100 Try.results100 rfl 1 13 (by simp) (by simp) ?_
  simp only [vsA, vsB, vsC, appendWp, Nat.reduceShiftRight, Nat.reduceMod, Nat.reduceLT, Nat.reduceMul, Nat.reduceSub, Int.reduceToNat, Int.reduceNeg, Int.reduceLT, Int.reduceLE, Int.reduceEq, Nat.reduceEqDiff, Nat.reduceAdd, Nat.reduceLeDiff, reduceIte, reduceCtorEq, Nat.reduceBEq, tysA, i64, mkV]
  refine call_one (next_ok m hl hp 15 (by omega)) rfl rfl rfl rfl rfl rfl ?_
  have hc : pick m.l m.pos 15 / 2 = 0 ∨ pick m.l m.pos 15 / 2 = 1 ∨ pick m.l m.pos 15 / 2 = 2 ∨ pick m.l m.pos 15 / 2 = 3 ∨ pick m.l m.pos 15 / 2 = 4 ∨ pick m.l m.pos 15 / 2 = 5 ∨ pick m.l m.pos 15 / 2 = 6 ∨ pick m.l m.pos 15 / 2 = 7 := by omega
  simp only [vsA, vsB, vsC, appendWp, Nat.reduceShiftRight, Nat.reduceMod, Nat.reduceLT, Nat.reduceMul, Nat.reduceSub, Int.reduceToNat, Int.reduceNeg, Int.reduceLT, Int.reduceLE, Int.reduceEq, Nat.reduceEqDiff, Nat.reduceAdd, Nat.reduceLeDiff, reduceIte, reduceCtorEq, Nat.reduceBEq, tysA, i64, mkV, Mk.next, hd, w1]
  rcases hc with hc | hc | hc | hc | hc | hc | hc | hc <;> (simp only [vsA, vsB, vsC, appendWp, Nat.reduceShiftRight, Nat.reduceMod, Nat.reduceLT, Nat.reduceMul, Nat.reduceSub, Int.reduceToNat, Int.reduceNeg, Int.reduceLT, Int.reduceLE, Int.reduceEq, Nat.reduceEqDiff, Nat.reduceAdd, Nat.reduceLeDiff, reduceIte, reduceCtorEq, Nat.reduceBEq, tysA, hc, Mk.set, Mk.next, setSpans, Re.ofSet, Int.toNat_zero, reV, Re.cells]; exact ⟨by omega, rfl, rfl⟩)
end Go.Proofs.Ytafbdphblilenaa

set_option linter.unusedSimpArgs false
set_option linter.unusedVariables false
namespace Go.Proofs.Ytafbdphblilenaa
open Go.VL

/-! ### Whether a tree can match without symbols -/

mutual
def Re.nul : Re → Bool
  | .mk op _ kids mn _ _ _ _ => if op = 1 then false else if op = 2 then Re.nulAll kids else if op = 3 ∨ op = 10 then Re.nulAny kids else if op = 4 then decide (mn ≤ 0) || Re.nul1 kids else if op = 5 ∨ op = 9 then Re.nul1 kids else true
def Re.nulAll : List Re → Bool
  | [] => true
  | k :: l => k.nul && Re.nulAll l
def Re.nulAny : List Re → Bool
  | [] => false
  | k :: l => k.nul || Re.nulAny l
def Re.nul1 : List Re → Bool
  | [] => false
  | k :: _ => k.nul
end

theorem Re.nul_eq (re : Re) : re.nul = if re.op = 1 then false else if re.op = 2 then Re.nulAll re.kids else if re.op = 3 ∨ re.op = 10 then Re.nulAny re.kids else if re.op = 4 then decide (re.mn ≤ 0) || Re.nul1 re.kids else if re.op = 5 ∨ re.op = 9 then Re.nul1 re.kids else true := by
  cases re; simp only [Re.nul, Re.op, Re.kids, Re.mn]; rfl

theorem Re.nulAll_all : ∀ l : List Re, Re.nulAll l = l.all Re.nul
  | [] => rfl
  | k :: l => by simp [Re.nulAll, Re.nulAll_all l]

theorem Re.nulAny_any : ∀ l : List Re, Re.nulAny l = l.any Re.nul
  | [] => rfl
  | k :: l => by simp [Re.nulAny, Re.nulAny_any l]

theorem mem_take_succ {α : Type} {l : List α} {i : Nat} {k x : α} (h : l[i]? = some k) (hx : x ∈ l.take (i + 1)) : x ∈ l.take i ∨ x = k := by
  rw [take_get h] at hx
  simpa using hx

set_option maxRecDepth 100000 in
set_option maxHeartbeats 4000000 in
theorem refNullable_ok (re : Re) : re.size ≤ 1000000000 → PureOK Try.prog 32 [reV re] (bV re.nul) := by
  induction re using Re.ind with
  | h re ih =>
  intro hs
  have hlen := Re.len_le re.kids
  have hsz := Re.size_eq re
  refine fn_ok Try.func32 rfl Try.ntmps32 Try.results32 rfl 0 576460752336978015 (by simp) (by simp) ?_
  by_cases o1 : re.op = 1
  · simp only [vsA, vsB, vsC, appendWp, Nat.reduceShiftRight, Nat.reduceMod, Nat.reduceLT, Nat.reduceMul, Nat.reduceSub, Int.reduceToNat, Int.reduceNeg, Int.reduceLT, Int.reduceLE, Int.reduceEq, Nat.reduceEqDiff, Nat.reduceAdd, Nat.reduceLeDiff, reduceIte, reduceCtorEq, Nat.reduceBEq, tysA, reV_eq re, iD, bD, bV, o1, Re.nul_eq re]
  by_cases o2 : re.op = 2
  · simp only [vsA, vsB, vsC, appendWp, Nat.reduceShiftRight, Nat.reduceMod, Nat.reduceLT, Nat.reduceMul, Nat.reduceSub, Int.reduceToNat, Int.reduceNeg, Int.reduceLT, Int.reduceLE, Int.reduceEq, Nat.reduceEqDiff, Nat.reduceAdd, Nat.reduceLeDiff, reduceIte, reduceCtorEq, Nat.reduceBEq, tysA, reV_eq re, iD, bD, bV, o2]
    refine loop_rule (fun n e s => ∃ i : Nat, n = re.kids.length - i ∧ i ≤ re.kids.length ∧ e 1 = .rf 0 0 0 0 ∧ e 3 = i64 i ∧ (∀ x ∈ re.kids.take i, x.nul = true) ∧ s = [⟨0, true, 8, [re.cells.map .d]⟩]) ⟨_, _, _, Cln.refl, 0, rfl, by simp, rfl, rfl, by simp, by simp [Re.cells_eq re, iD, bD, o2]⟩ ?_
    rintro n e s ⟨i, rfl, hi, h1, h3, hn, rfl⟩
    rcases Nat.lt_or_ge i re.kids.length with hlt | hge
    · obtain ⟨k, hk⟩ : ∃ k, re.kids[i]? = some k := ⟨_, List.getElem?_eq_getElem hlt⟩
      have hm := List.mem_of_getElem? hk
      have hks := Re.size_kid hm
      simp only [vsA, vsB, vsC, appendWp, Nat.reduceShiftRight, Nat.reduceMod, Nat.reduceLT, Nat.reduceMul, Nat.reduceSub, Int.reduceToNat, Int.reduceNeg, Int.reduceLT, Int.reduceLE, Int.reduceEq, Nat.reduceEqDiff, Nat.reduceAdd, Nat.reduceLeDiff, reduceIte, reduceCtorEq, Nat.reduceBEq, tysA, Re.cells_eq re, iD, bD, h1, h3, i64, hlt, hk]
      refine call_pure (ih k hm (by omega)) (by simp [refsV, refsV.go, reV_eq, i64, bV, reEl]) (by simp [refsV, refsV.go, reV_eq, i64, bV, reEl]) ?_
      cases hkn : k.nul with
      | false =>
        simp only [vsA, vsB, vsC, appendWp, Nat.reduceShiftRight, Nat.reduceMod, Nat.reduceLT, Nat.reduceMul, Nat.reduceSub, Int.reduceToNat, Int.reduceNeg, Int.reduceLT, Int.reduceLE, Int.reduceEq, Nat.reduceEqDiff, Nat.reduceAdd, Nat.reduceLeDiff, reduceIte, reduceCtorEq, Nat.reduceBEq, tysA, bV, hkn]
        have : Re.nulAll re.kids = false := by rw [Re.nulAll_all, List.all_eq_false]; exact ⟨k, hm, by simp [hkn]⟩
        simp [Re.nul_eq re, o2, this]
      | true =>
        simp only [vsA, vsB, vsC, appendWp, Nat.reduceShiftRight, Nat.reduceMod, Nat.reduceLT, Nat.reduceMul, Nat.reduceSub, Int.reduceToNat, Int.reduceNeg, Int.reduceLT, Int.reduceLE, Int.reduceEq, Nat.reduceEqDiff, Nat.reduceAdd, Nat.reduceLeDiff, reduceIte, reduceCtorEq, Nat.reduceBEq, tysA, bV, hkn, h3, i64]
        refine ⟨_, _, _, ?_, Cln.refl, i + 1, rfl, hlt, ?_⟩
        · omega
        simp only [updE, Nat.reduceEqDiff, if_true, if_false]
        refine ⟨h1, ?_, fun x hx => ?_, by simp [Re.cells_eq re, iD, bD]⟩
        · rw [w64 _ (by omega)]; rfl
        · rcases mem_take_succ hk hx with h | rfl
          · exact hn x h
          · exact hkn
    · have hie : i = re.kids.length := by omega
      subst hie
      simp only [vsA, vsB, vsC, appendWp, Nat.reduceShiftRight, Nat.reduceMod, Nat.reduceLT, Nat.reduceMul, Nat.reduceSub, Int.reduceToNat, Int.reduceNeg, Int.reduceLT, Int.reduceLE, Int.reduceEq, Nat.reduceEqDiff, Nat.reduceAdd, Nat.reduceLeDiff, reduceIte, reduceCtorEq, Nat.reduceBEq, tysA, Re.cells_eq re, iD, bD, h1, h3, i64, Nat.lt_irrefl, bV]
      have : Re.nulAll re.kids = true := by rw [Re.nulAll_all, List.all_eq_true]; simpa using hn
      simp [Re.nul_eq re, o2, this]
  by_cases o3 : re.op = 3 ∨ re.op = 10
  · have hr : re.nul = Re.nulAny re.kids := by simp [Re.nul_eq re, o1, o2, o3]
    rcases o3 with o3 | o3
    all_goals
      simp only [vsA, vsB, vsC, appendWp, Nat.reduceShiftRight, Nat.reduceMod, Nat.reduceLT, Nat.reduceMul, Nat.reduceSub, Int.reduceToNat, Int.reduceNeg, Int.reduceLT, Int.reduceLE, Int.reduceEq, Nat.reduceEqDiff, Nat.reduceAdd, Nat.reduceLeDiff, reduceIte, reduceCtorEq, Nat.reduceBEq, tysA, reV_eq re, iD, bD, bV, o1, o2, o3]
      refine loop_rule (fun n e s => ∃ i : Nat, n = re.kids.length - i ∧ i ≤ re.kids.length ∧ e 1 = .rf 0 0 0 0 ∧ e 4 = i64 i ∧ (∀ x ∈ re.kids.take i, x.nul = false) ∧ s = [⟨0, true, 8, [re.cells.map .d]⟩]) ⟨_, _, _, Cln.refl, 0, rfl, by simp, rfl, rfl, by simp, by simp [Re.cells_eq re, iD, bD, o3]⟩ ?_
      rintro n e s ⟨i, rfl, hi, h1, h3, hn, rfl⟩
      rcases Nat.lt_or_ge i re.kids.length with hlt | hge
      · obtain ⟨k, hk⟩ : ∃ k, re.kids[i]? = some k := ⟨_, List.getElem?_eq_getElem hlt⟩
        have hm := List.mem_of_getElem? hk
        have hks := Re.size_kid hm
        simp only [vsA, vsB, vsC, appendWp, Nat.reduceShiftRight, Nat.reduceMod, Nat.reduceLT, Nat.reduceMul, Nat.reduceSub, Int.reduceToNat, Int.reduceNeg, Int.reduceLT, Int.reduceLE, Int.reduceEq, Nat.reduceEqDiff, Nat.reduceAdd, Nat.reduceLeDiff, reduceIte, reduceCtorEq, Nat.reduceBEq, tysA, Re.cells_eq re, iD, bD, h1, h3, i64, hlt, hk]
        refine call_pure (ih k hm (by omega)) (by simp [refsV, refsV.go, reV_eq, i64, bV, reEl]) (by simp [refsV, refsV.go, reV_eq, i64, bV, reEl]) ?_
        cases hkn : k.nul with
        | true =>
          simp only [vsA, vsB, vsC, appendWp, Nat.reduceShiftRight, Nat.reduceMod, Nat.reduceLT, Nat.reduceMul, Nat.reduceSub, Int.reduceToNat, Int.reduceNeg, Int.reduceLT, Int.reduceLE, Int.reduceEq, Nat.reduceEqDiff, Nat.reduceAdd, Nat.reduceLeDiff, reduceIte, reduceCtorEq, Nat.reduceBEq, tysA, bV, hkn]
          have : Re.nulAny re.kids = true := by rw [Re.nulAny_any, List.any_eq_true]; exact ⟨k, hm, by simp [hkn]⟩
          simp [hr, this]
        | false =>
          simp only [vsA, vsB, vsC, appendWp, Nat.reduceShiftRight, Nat.reduceMod, Nat.reduceLT, Nat.reduceMul, Nat.reduceSub, Int.reduceToNat, Int.reduceNeg, Int.reduceLT, Int.reduceLE, Int.reduceEq, Nat.reduceEqDiff, Nat.reduceAdd, Nat.reduceLeDiff, reduceIte, reduceCtorEq, Nat.reduceBEq, tysA, bV, hkn, h3, i64]
          refine ⟨_, _, _, ?_, Cln.refl, i + 1, rfl, hlt, ?_⟩
          · omega
          simp only [updE, Nat.reduceEqDiff, if_true, if_false]
          refine ⟨h1, ?_, fun x hx => ?_, by simp [Re.cells_eq re, iD, bD]⟩
          · rw [w64 _ (by omega)]; rfl
          · rcases mem_take_succ hk hx with h | rfl
            · exact hn x h
            · exact hkn
      · have hie : i = re.kids.length := by omega
        subst hie
        simp only [vsA, vsB, vsC, appendWp, Nat.reduceShiftRight, Nat.reduceMod, Nat.reduceLT, Nat.reduceMul, Nat.reduceSub, Int.reduceToNat, Int.reduceNeg, Int.reduceLT, Int.reduceLE, Int.reduceEq, Nat.reduceEqDiff, Nat.reduceAdd, Nat.reduceLeDiff, reduceIte, reduceCtorEq, Nat.reduceBEq, tysA, Re.cells_eq re, iD, bD, h1, h3, i64, Nat.lt_irrefl, bV]
        have : Re.nulAny re.kids = false := by rw [Re.nulAny_any, List.any_eq_false]; simpa using hn
        simp [hr, this]
  have o3' : ¬ re.op = 3 := fun h => o3 (.inl h)
  have o10 : ¬ re.op = 10 := fun h => o3 (.inr h)
  by_cases o4 : re.op = 4
  · have hr : re.nul = (decide (re.mn ≤ 0) || Re.nul1 re.kids) := by simp [Re.nul_eq re, o4]
    by_cases hmn : re.mn ≤ 0
    · simp only [vsA, vsB, vsC, appendWp, Nat.reduceShiftRight, Nat.reduceMod, Nat.reduceLT, Nat.reduceMul, Nat.reduceSub, Int.reduceToNat, Int.reduceNeg, Int.reduceLT, Int.reduceLE, Int.reduceEq, Nat.reduceEqDiff, Nat.reduceAdd, Nat.reduceLeDiff, reduceIte, reduceCtorEq, Nat.reduceBEq, tysA, reV_eq re, iD, bD, bV, o1, o2, o3', o10, o4, hmn]
      simp [hr, hmn]
    cases hk : re.kids with
    | nil =>
      simp only [vsA, vsB, vsC, appendWp, Nat.reduceShiftRight, Nat.reduceMod, Nat.reduceLT, Nat.reduceMul, Nat.reduceSub, Int.reduceToNat, Int.reduceNeg, Int.reduceLT, Int.reduceLE, Int.reduceEq, Nat.reduceEqDiff, Nat.reduceAdd, Nat.reduceLeDiff, reduceIte, reduceCtorEq, Nat.reduceBEq, tysA, reV_eq re, iD, bD, bV, o1, o2, o3', o10, o4, hmn, hk, List.map_nil]
      simp [hr, hmn, hk, Re.nul1]
    | cons k l =>
      have hm : k ∈ re.kids := by simp [hk]
      have hks := Re.size_kid hm
      have hpos : (0 : Int) < ((l.length + 1 : Nat) : Int) := by omega
      simp only [vsA, vsB, vsC, appendWp, Nat.reduceShiftRight, Nat.reduceMod, Nat.reduceLT, Nat.reduceMul, Nat.reduceSub, Int.reduceToNat, Int.reduceNeg, Int.reduceLT, Int.reduceLE, Int.reduceEq, Nat.reduceEqDiff, Nat.reduceAdd, Nat.reduceLeDiff, reduceIte, reduceCtorEq, Nat.reduceBEq, tysA, reV_eq re, iD, bD, bV, o1, o2, o3', o10, o4, hmn, hk, List.map_cons, hpos]
      refine call_pure (ih k hm (by omega)) (by simp [refsV, refsV.go, reV_eq, i64, bV, reEl]) (by simp [refsV, refsV.go, reV_eq, i64, bV, reEl]) ?_
      cases hkn : k.nul with
      | true =>
        simp only [vsA, vsB, vsC, appendWp, Nat.reduceShiftRight, Nat.reduceMod, Nat.reduceLT, Nat.reduceMul, Nat.reduceSub, Int.reduceToNat, Int.reduceNeg, Int.reduceLT, Int.reduceLE, Int.reduceEq, Nat.reduceEqDiff, Nat.reduceAdd, Nat.reduceLeDiff, reduceIte, reduceCtorEq, Nat.reduceBEq, tysA, bV, hkn]
        simp [hr, hmn, hk, Re.nul1, hkn]
      | false =>
        simp only [vsA, vsB, vsC, appendWp, Nat.reduceShiftRight, Nat.reduceMod, Nat.reduceLT, Nat.reduceMul, Nat.reduceSub, Int.reduceToNat, Int.reduceNeg, Int.reduceLT, Int.reduceLE, Int.reduceEq, Nat.reduceEqDiff, Nat.reduceAdd, Nat.reduceLeDiff, reduceIte, reduceCtorEq, Nat.reduceBEq, tysA, bV, hkn]
        simp [hr, hmn, hk, Re.nul1, hkn]
  by_cases o5 : re.op = 5 ∨ re.op = 9
  · have hr : re.nul = Re.nul1 re.kids := by simp [Re.nul_eq re, o1, o2, o3, o4, o5]
    rcases o5 with o5 | o5
    all_goals
      cases hk : re.kids with
      | nil =>
        simp only [vsA, vsB, vsC, appendWp, Nat.reduceShiftRight, Nat.reduceMod, Nat.reduceLT, Nat.reduceMul, Nat.reduceSub, Int.reduceToNat, Int.reduceNeg, Int.reduceLT, Int.reduceLE, Int.reduceEq, Nat.reduceEqDiff, Nat.reduceAdd, Nat.reduceLeDiff, reduceIte, reduceCtorEq, Nat.reduceBEq, tysA, reV_eq re, iD, bD, bV, o1, o2, o3', o10, o4, o5, hk, List.map_nil]
        simp [hr, hk, Re.nul1]
      | cons k l =>
        have hm : k ∈ re.kids := by simp [hk]
        have hks := Re.size_kid hm
        have hpos : (0 : Int) < ((l.length + 1 : Nat) : Int) := by omega
        simp only [vsA, vsB, vsC, appendWp, Nat.reduceShiftRight, Nat.reduceMod, Nat.reduceLT, Nat.reduceMul, Nat.reduceSub, Int.reduceToNat, Int.reduceNeg, Int.reduceLT, Int.reduceLE, Int.reduceEq, Nat.reduceEqDiff, Nat.reduceAdd, Nat.reduceLeDiff, reduceIte, reduceCtorEq, Nat.reduceBEq, tysA, reV_eq re, iD, bD, bV, o1, o2, o3', o10, o4, o5, hk, List.map_cons, hpos]
        refine call_pure (ih k hm (by omega)) (by simp [refsV, refsV.go, reV_eq, i64, bV, reEl]) (by simp [refsV, refsV.go, reV_eq, i64, bV, reEl]) ?_
        cases hkn : k.nul with
        | true =>
          simp only [vsA, vsB, vsC, appendWp, Nat.reduceShiftRight, Nat.reduceMod, Nat.reduceLT, Nat.reduceMul, Nat.reduceSub, Int.reduceToNat, Int.reduceNeg, Int.reduceLT, Int.reduceLE, Int.reduceEq, Nat.reduceEqDiff, Nat.reduceAdd, Nat.reduceLeDiff, reduceIte, reduceCtorEq, Nat.reduceBEq, tysA, bV, hkn]
          simp [hr, hk, Re.nul1, hkn]
        | false =>
          simp only [vsA, vsB, vsC, appendWp, Nat.reduceShiftRight, Nat.reduceMod, Nat.reduceLT, Nat.reduceMul, Nat.reduceSub, Int.reduceToNat, Int.reduceNeg, Int.reduceLT, Int.reduceLE, Int.reduceEq, Nat.reduceEqDiff, Nat.reduceAdd, Nat.reduceLeDiff, reduceIte, reduceCtorEq, Nat.reduceBEq, tysA, bV, hkn]
          simp [hr, hk, Re.nul1, hkn]
  have o5' : ¬ re.op = 5 := fun h => o5 (.inl h)
  have o9 : ¬ re.op = 9 := fun h => o5 (.inr h)
  simp only [vsA, vsB, vsC, appendWp, Nat.reduceShiftRight, Nat.reduceMod, Nat.reduceLT, Nat.reduceMul, Nat.reduceSub, Int.reduceToNat, Int.reduceNeg, Int.reduceLT, Int.reduceLE, Int.reduceEq, Nat.reduceEqDiff, Nat.reduceAdd, Nat.reduceLeDiff, reduceIte, reduceCtorEq, Nat.reduceBEq, tysA, reV_eq re, iD, bD, bV, o1, o2, o3', o10, o4, o5', o9]
  simp [Re.nul_eq re, o1, o2, o3, o4, o5]
end Go.Proofs.Ytafbdphblilenaa

set_option linter.unusedSimpArgs false
set_option linter.unusedVariables false
namespace Go.Proofs.Ytafbdphblilenaa
open Go.VL

/-! ### Lengths and whether a tree can be empty: what the code computes -/

def lplus (a b : Int) : Int := if a < 0 ∨ b < 0 then -1 else min (IntKind.i64.wrap (a + b)) 1000000
def lgreater (a b : Int) : Int := if a < 0 ∨ b < 0 then -1 else max a b
def ltimes (a b : Int) : Int := if a = 0 ∨ b = 0 then 0 else if a < 0 ∨ b < 0 then -1 else min (IntKind.i64.wrap (a * b)) 1000000

set_option maxHeartbeats 1000000 in
theorem plus_ok (a b : Int) : PureOK Try.prog 55 [i64 a, i64 b] (i64 (lplus a b)) := by
  refine fn_ok Try.func55 rfl Try.ntmps55 Try.results55 rfl 0 19 (by simp) (by simp) ?_
  by_cases ha : a < 0
  · simp only [vsA, vsB, vsC, appendWp, Nat.reduceShiftRight, Nat.reduceMod, Nat.reduceLT, Nat.reduceMul, Nat.reduceSub, Int.reduceToNat, Int.reduceNeg, Int.reduceLT, Int.reduceLE, Int.reduceEq, Nat.reduceEqDiff, Nat.reduceAdd, Nat.reduceLeDiff, reduceIte, reduceCtorEq, Nat.reduceBEq, tysA, i64, ha]
    simp [lplus, ha]
  · by_cases hb : b < 0
    · simp only [vsA, vsB, vsC, appendWp, Nat.reduceShiftRight, Nat.reduceMod, Nat.reduceLT, Nat.reduceMul, Nat.reduceSub, Int.reduceToNat, Int.reduceNeg, Int.reduceLT, Int.reduceLE, Int.reduceEq, Nat.reduceEqDiff, Nat.reduceAdd, Nat.reduceLeDiff, reduceIte, reduceCtorEq, Nat.reduceBEq, tysA, i64, ha, hb]
      simp [lplus, ha, hb]
    · simp only [vsA, vsB, vsC, appendWp, Nat.reduceShiftRight, Nat.reduceMod, Nat.reduceLT, Nat.reduceMul, Nat.reduceSub, Int.reduceToNat, Int.reduceNeg, Int.reduceLT, Int.reduceLE, Int.reduceEq, Nat.reduceEqDiff, Nat.reduceAdd, Nat.reduceLeDiff, reduceIte, reduceCtorEq, Nat.reduceBEq, tysA, i64, ha, hb]
      simp [lplus, ha, hb]

set_option maxHeartbeats 1000000 in
theorem greater_ok (a b : Int) : PureOK Try.prog 56 [i64 a, i64 b] (i64 (lgreater a b)) := by
  refine fn_ok Try.func56 rfl Try.ntmps56 Try.results56 rfl 0 19 (by simp) (by simp) ?_
  by_cases ha : a < 0
  · simp only [vsA, vsB, vsC, appendWp, Nat.reduceShiftRight, Nat.reduceMod, Nat.reduceLT, Nat.reduceMul, Nat.reduceSub, Int.reduceToNat, Int.reduceNeg, Int.reduceLT, Int.reduceLE, Int.reduceEq, Nat.reduceEqDiff, Nat.reduceAdd, Nat.reduceLeDiff, reduceIte, reduceCtorEq, Nat.reduceBEq, tysA, i64, ha]
    simp [lgreater, ha]
  · by_cases hb : b < 0
    · simp only [vsA, vsB, vsC, appendWp, Nat.reduceShiftRight, Nat.reduceMod, Nat.reduceLT, Nat.reduceMul, Nat.reduceSub, Int.reduceToNat, Int.reduceNeg, Int.reduceLT, Int.reduceLE, Int.reduceEq, Nat.reduceEqDiff, Nat.reduceAdd, Nat.reduceLeDiff, reduceIte, reduceCtorEq, Nat.reduceBEq, tysA, i64, ha, hb]
      simp [lgreater, ha, hb]
    · simp only [vsA, vsB, vsC, appendWp, Nat.reduceShiftRight, Nat.reduceMod, Nat.reduceLT, Nat.reduceMul, Nat.reduceSub, Int.reduceToNat, Int.reduceNeg, Int.reduceLT, Int.reduceLE, Int.reduceEq, Nat.reduceEqDiff, Nat.reduceAdd, Nat.reduceLeDiff, reduceIte, reduceCtorEq, Nat.reduceBEq, tysA, i64, ha, hb]
      simp [lgreater, ha, hb]

set_option maxHeartbeats 1000000 in
theorem times_ok (a b : Int) : PureOK Try.prog 57 [i64 a, i64 b] (i64 (ltimes a b)) := by
  refine fn_ok Try.func57 rfl Try.ntmps57 Try.results57 rfl 0 19 (by simp) (by simp) ?_
  by_cases ha0 : a = 0
  · simp only [vsA, vsB, vsC, appendWp, Nat.reduceShiftRight, Nat.reduceMod, Nat.reduceLT, Nat.reduceMul, Nat.reduceSub, Int.reduceToNat, Int.reduceNeg, Int.reduceLT, Int.reduceLE, Int.reduceEq, Nat.reduceEqDiff, Nat.reduceAdd, Nat.reduceLeDiff, reduceIte, reduceCtorEq, Nat.reduceBEq, tysA, i64, ha0]
    simp [ltimes, ha0]
  by_cases hb0 : b = 0
  · simp only [vsA, vsB, vsC, appendWp, Nat.reduceShiftRight, Nat.reduceMod, Nat.reduceLT, Nat.reduceMul, Nat.reduceSub, Int.reduceToNat, Int.reduceNeg, Int.reduceLT, Int.reduceLE, Int.reduceEq, Nat.reduceEqDiff, Nat.reduceAdd, Nat.reduceLeDiff, reduceIte, reduceCtorEq, Nat.reduceBEq, tysA, i64, ha0, hb0]
    simp [ltimes, ha0, hb0]
  by_cases ha : a < 0
  · simp only [vsA, vsB, vsC, appendWp, Nat.reduceShiftRight, Nat.reduceMod, Nat.reduceLT, Nat.reduceMul, Nat.reduceSub, Int.reduceToNat, Int.reduceNeg, Int.reduceLT, Int.reduceLE, Int.reduceEq, Nat.reduceEqDiff, Nat.reduceAdd, Nat.reduceLeDiff, reduceIte, reduceCtorEq, Nat.reduceBEq, tysA, i64, ha0, hb0, ha]
    simp [ltimes, ha0, hb0, ha]
  · by_cases hb : b < 0
    · simp only [vsA, vsB, vsC, appendWp, Nat.reduceShiftRight, Nat.reduceMod, Nat.reduceLT, Nat.reduceMul, Nat.reduceSub, Int.reduceToNat, Int.reduceNeg, Int.reduceLT, Int.reduceLE, Int.reduceEq, Nat.reduceEqDiff, Nat.reduceAdd, Nat.reduceLeDiff, reduceIte, reduceCtorEq, Nat.reduceBEq, tysA, i64, ha0, hb0, ha, hb]
      simp [ltimes, ha0, hb0, ha, hb]
    · simp only [vsA, vsB, vsC, appendWp, Nat.reduceShiftRight, Nat.reduceMod, Nat.reduceLT, Nat.reduceMul, Nat.reduceSub, Int.reduceToNat, Int.reduceNeg, Int.reduceLT, Int.reduceLE, Int.reduceEq, Nat.reduceEqDiff, Nat.reduceAdd, Nat.reduceLeDiff, reduceIte, reduceCtorEq, Nat.reduceBEq, tysA, i64, ha0, hb0, ha, hb]
      simp [ltimes, ha0, hb0, ha, hb]

def catL (l : List (Int × Int)) : Int × Int := l.foldl (fun a k => (lplus a.1 k.1, lplus a.2 k.2)) (0, 0)

def altF (a k : Int × Int) : Int × Int := (min a.1 k.1, lgreater a.2 k.2)
def altL : List (Int × Int) → Int × Int
  | [] => (0, 0)
  | k :: l => l.foldl altF (altF k k)

theorem catL_snoc (l : List (Int × Int)) (k : Int × Int) : catL (l ++ [k]) = (lplus (catL l).1 k.1, lplus (catL l).2 k.2) := by
  simp [catL, List.foldl_append]

theorem altL_one (k : Int × Int) : altL [k] = altF k k := rfl

theorem altL_snoc {l : List (Int × Int)} (h : l ≠ []) (k : Int × Int) : altL (l ++ [k]) = altF (altL l) k := by
  cases l with
  | nil => exact absurd rfl h
  | cons x l => simp [altL, List.foldl_append]

def lensOp (op mn mx : Int) (l : List (Int × Int)) : Int × Int :=
  if op = 1 then (1, 1)
  else if op = 6 then (0, -1)
  else if op = 2 then catL l
  else if op = 3 ∨ op = 10 ∨ op = 4 ∨ op = 5 ∨ op = 9 then
    (if op = 4 then (ltimes (altL l).1 mn, ltimes (altL l).2 mx) else altL l)
  else (0, 0)

mutual
def Re.lens : Re → Int × Int
  | .mk op _ kids mn mx _ _ _ => lensOp op mn mx (Re.lensL kids)
def Re.lensL : List Re → List (Int × Int)
  | [] => []
  | k :: l => k.lens :: Re.lensL l
end

theorem Re.lensL_eq : ∀ l : List Re, Re.lensL l = l.map Re.lens
  | [] => by simp [Re.lensL]
  | k :: l => by simp [Re.lensL, Re.lensL_eq l]

theorem Re.lens_eq (re : Re) : re.lens = lensOp re.op re.mn re.mx (re.kids.map Re.lens) := by
  cases re; simp [Re.lens, Re.lensL_eq, Re.op, Re.mn, Re.mx, Re.kids]

/-- The cell that holds a closure that calls itself. -/
def cellO (f : FuncId) : VL.Obj := ⟨0, true, 1, [[.cl (.func f) [] [.rf 0 0 0 0]]]⟩

/-! ### Trees whose lists are not too long -/

mutual
def Re.fine : Re → Bool
  | .mk _ set kids _ _ _ _ _ => decide (set.length ≤ 1000000000) && (decide (kids.length ≤ 1000000000) && Re.fineL kids)
def Re.fineL : List Re → Bool
  | [] => true
  | k :: l => k.fine && Re.fineL l
end

theorem Re.fineL_all : ∀ l : List Re, Re.fineL l = l.all Re.fine
  | [] => rfl
  | k :: l => by simp [Re.fineL, Re.fineL_all l]

theorem Re.fine_iff (re : Re) : re.fine = true ↔ re.set.length ≤ 1000000000 ∧ re.kids.length ≤ 1000000000 ∧ ∀ k ∈ re.kids, k.fine = true := by
  cases re with
  | mk op set kids mn mx mode n neg => simp only [Re.fine, Bool.and_eq_true, decide_eq_true_eq, Re.fineL_all, List.all_eq_true, Re.set, Re.kids]

theorem Re.fine_spec {re : Re} (h : re.fine = true) : re.set.length ≤ 1000000000 ∧ re.kids.length ≤ 1000000000 ∧ ∀ k ∈ re.kids, k.fine = true := (Re.fine_iff re).1 h

end Go.Proofs.Ytafbdphblilenaa

set_option linter.unusedSimpArgs false
set_option linter.unusedVariables false
namespace Go.Proofs.Ytafbdphblilenaa
open Go.VL

def anulOp (op mn : Int) (l : List Bool) : Bool :=
  if op = 0 ∨ op = 6 ∨ op = 7 ∨ op = 8 ∨ op = 11 then true
  else if op = 2 then l.all id
  else if op = 4 then (if mn = 0 then true else l.any id)
  else if op = 3 ∨ op = 10 ∨ op = 5 ∨ op = 9 then l.any id
  else false

mutual
def Re.anul : Re → Bool
  | .mk op _ kids mn _ _ _ _ => anulOp op mn (Re.anulL kids)
def Re.anulL : List Re → List Bool
  | [] => []
  | k :: l => k.anul :: Re.anulL l
end

theorem Re.anulL_eq : ∀ l : List Re, Re.anulL l = l.map Re.anul
  | [] => by simp [Re.anulL]
  | k :: l => by simp [Re.anulL, Re.anulL_eq l]

theorem Re.anul_eq (re : Re) : re.anul = anulOp re.op re.mn (re.kids.map Re.anul) := by
  cases re; simp [Re.anul, Re.anulL_eq, Re.op, Re.mn, Re.kids]

def NulOK (re : Re) : Prop := callWp Try.prog 58 [reEl re, .rf 0 0 0 0] [cellO 58] fun v s => v = bV re.anul ∧ s = [cellO 58]

set_option maxRecDepth 100000 in
set_option maxHeartbeats 8000000 in
theorem nul_cat (re : Re) (ih : ∀ k ∈ re.kids, k.fine = true → NulOK k) (hs : re.fine = true) (o2 : re.op = 2) : NulOK re := by
  obtain ⟨hset1, hlen, hfk⟩ := Re.fine_spec hs
  have hle : re.anul = (re.kids.map Re.anul).all id := by rw [Re.anul_eq, o2]; rfl
  unfold NulOK
  rw [hle]
  refine fn_ok Try.func58 rfl Try.ntmps58 Try.results58 rfl 1 13519594987718203 (by simp) (by simp) ?_
  simp only [vsA, vsB, vsC, appendWp, Nat.reduceShiftRight, Nat.reduceMod, Nat.reduceLT, Nat.reduceMul, Nat.reduceSub, Int.reduceToNat, Int.reduceNeg, Int.reduceLT, Int.reduceLE, Int.reduceEq, Nat.reduceEqDiff, Nat.reduceAdd, Nat.reduceLeDiff, reduceIte, reduceCtorEq, Nat.reduceBEq, tysA, i64, reEl, Re.cells_eq re, iD, bD, o2, cellO]
  refine loop_rule (fun n e s => ∃ i : Nat, n = re.kids.length - i ∧ i ≤ re.kids.length ∧ e 0 = reEl re ∧ e 1 = .rf 0 0 0 0 ∧ (∀ x ∈ re.kids.take i, x.anul = true) ∧ e 22 = i64 re.kids.length ∧ e 23 = i64 i ∧ s = [cellO 58])
    ⟨_, _, _, Cln.refl, 0, rfl, by omega, by simp [reEl, Re.cells_eq re, iD, bD, o2]; rfl, rfl, by simp, rfl, rfl, rfl⟩ ?_
  rintro n e s ⟨i, rfl, hi, h0, h1, hall, h22, h23, rfl⟩
  rcases Nat.lt_or_ge i re.kids.length with hlt | hge
  · obtain ⟨k, hk⟩ : ∃ k, re.kids[i]? = some k := ⟨_, List.getElem?_eq_getElem hlt⟩
    have hm := List.mem_of_getElem? hk
    have hks := hfk k hm
    simp only [vsA, vsB, vsC, appendWp, Nat.reduceShiftRight, Nat.reduceMod, Nat.reduceLT, Nat.reduceMul, Nat.reduceSub, Int.reduceToNat, Int.reduceNeg, Int.reduceLT, Int.reduceLE, Int.reduceEq, Nat.reduceEqDiff, Nat.reduceAdd, Nat.reduceLeDiff, reduceIte, reduceCtorEq, Nat.reduceBEq, tysA, h0, h1, h22, h23, i64, hlt, cellO]
    refine draw_c mix [] [(0, [0], []), (7, [0], [0])] (by rfl) ?_
    simp only [vsA, vsB, vsC, appendWp, Nat.reduceShiftRight, Nat.reduceMod, Nat.reduceLT, Nat.reduceMul, Nat.reduceSub, Int.reduceToNat, Int.reduceNeg, Int.reduceLT, Int.reduceLE, Int.reduceEq, Nat.reduceEqDiff, Nat.reduceAdd, Nat.reduceLeDiff, reduceIte, reduceCtorEq, Nat.reduceBEq, tysA, h0, h1, h22, h23, i64, hlt, hk, reEl, Re.cells_eq re, iD, bD]
    refine callF_one (ih k hm hks) rfl rfl rfl rfl rfl rfl ?_
    cases hkn : k.anul with
    | true =>
      simp only [vsA, vsB, vsC, appendWp, Nat.reduceShiftRight, Nat.reduceMod, Nat.reduceLT, Nat.reduceMul, Nat.reduceSub, Int.reduceToNat, Int.reduceNeg, Int.reduceLT, Int.reduceLE, Int.reduceEq, Nat.reduceEqDiff, Nat.reduceAdd, Nat.reduceLeDiff, reduceIte, reduceCtorEq, Nat.reduceBEq, tysA, h0, h1, h22, h23, i64, cellO, bV, hkn]
      refine ⟨re.kids.length - (i + 1), _, _, by omega, Cln.refl, i + 1, rfl, hlt, ?_, ?_, ?_, ?_, ?_, rfl⟩ <;> (try simp only [keepE_app, List.contains_cons, List.contains_nil, Nat.reduceBEq, Bool.or_false, Bool.false_or, Bool.or_true, Bool.true_or, updE, trimE_upd, trimE_trim, trimE_app, Nat.reduceShiftRight, Nat.reduceMod, Nat.reduceEqDiff, if_true, if_false, reduceIte])
      · simpa [reEl, Re.cells_eq re, iD, bD] using h0
      · exact h1
      · intro x hx
        rw [take_get hk] at hx
        rcases List.mem_append.1 hx with hx | hx
        · exact hall x hx
        · rw [List.mem_singleton.1 hx]; exact hkn
      · exact h22
      · rw [w64 _ (by omega)]; rfl
    | false =>
      simp only [vsA, vsB, vsC, appendWp, Nat.reduceShiftRight, Nat.reduceMod, Nat.reduceLT, Nat.reduceMul, Nat.reduceSub, Int.reduceToNat, Int.reduceNeg, Int.reduceLT, Int.reduceLE, Int.reduceEq, Nat.reduceEqDiff, Nat.reduceAdd, Nat.reduceLeDiff, reduceIte, reduceCtorEq, Nat.reduceBEq, tysA, h0, h1, h22, h23, i64, cellO, bV, hkn]
      have : (re.kids.map Re.anul).all id = false := by rw [List.all_eq_false]; exact ⟨false, List.mem_map.2 ⟨k, hm, hkn⟩, by simp⟩
      rw [this]
      all_goals first | exact ⟨rfl, rfl⟩ | exact ⟨rfl, trivial⟩ | rfl | trivial | (rw [reV_eq]; rfl)
  · have hie : i = re.kids.length := by omega
    subst hie
    rw [List.take_length] at hall
    have : (re.kids.map Re.anul).all id = true := by rw [List.all_eq_true]; intro x hx; obtain ⟨y, hy, rfl⟩ := List.mem_map.1 hx; exact hall y hy
    rw [this]
    simp only [vsA, vsB, vsC, appendWp, Nat.reduceShiftRight, Nat.reduceMod, Nat.reduceLT, Nat.reduceMul, Nat.reduceSub, Int.reduceToNat, Int.reduceNeg, Int.reduceLT, Int.reduceLE, Int.reduceEq, Nat.reduceEqDiff, Nat.reduceAdd, Nat.reduceLeDiff, reduceIte, reduceCtorEq, Nat.reduceBEq, tysA, h0, h1, h22, h23, i64, cellO, Nat.lt_irrefl, bV]
    all_goals first | exact ⟨rfl, rfl⟩ | exact ⟨rfl, trivial⟩ | rfl | trivial | (rw [reV_eq]; rfl)

set_option maxRecDepth 100000 in
set_option maxHeartbeats 8000000 in
theorem nul_any (re : Re) (ih : ∀ k ∈ re.kids, k.fine = true → NulOK k) (hs : re.fine = true) (o : (re.op = 4 ∧ ¬ re.mn = 0) ∨ re.op = 3 ∨ re.op = 10 ∨ re.op = 5 ∨ re.op = 9) : NulOK re := by
  obtain ⟨hset1, hlen, hfk⟩ := Re.fine_spec hs
  have hle : re.anul = (re.kids.map Re.anul).any id := by
    rw [Re.anul_eq]; rcases o with ⟨o, om⟩ | o | o | o | o <;> rw [o]
    · simp [anulOp, om]
    all_goals rfl
  unfold NulOK
  rw [hle]
  obtain ⟨o2, om⟩ : (re.op = 4 ∨ re.op = 3 ∨ re.op = 10 ∨ re.op = 5 ∨ re.op = 9) ∧ (re.op = 4 → ¬ re.mn = 0) := by
    rcases o with ⟨o, om⟩ | o | o | o | o <;> simp [o] <;> exact om
  rcases o2 with o2 | o2 | o2 | o2 | o2
  all_goals
    refine fn_ok Try.func58 rfl Try.ntmps58 Try.results58 rfl 1 13519594987718203 (by simp) (by simp) ?_
    simp only [vsA, vsB, vsC, appendWp, Nat.reduceShiftRight, Nat.reduceMod, Nat.reduceLT, Nat.reduceMul, Nat.reduceSub, Int.reduceToNat, Int.reduceNeg, Int.reduceLT, Int.reduceLE, Int.reduceEq, Nat.reduceEqDiff, Nat.reduceAdd, Nat.reduceLeDiff, reduceIte, reduceCtorEq, Nat.reduceBEq, tysA, i64, reEl, Re.cells_eq re, iD, bD, o2, om, cellO]
    refine loop_rule (fun n e s => ∃ i : Nat, n = re.kids.length - i ∧ i ≤ re.kids.length ∧ e 0 = reEl re ∧ e 1 = .rf 0 0 0 0 ∧ (∀ x ∈ re.kids.take i, x.anul = false) ∧ e 52 = i64 re.kids.length ∧ e 53 = i64 i ∧ s = [cellO 58])
      ⟨_, _, _, Cln.refl, 0, rfl, by omega, by simp [reEl, Re.cells_eq re, iD, bD, o2]; rfl, rfl, by simp, rfl, rfl, rfl⟩ ?_
    rintro n e s ⟨i, rfl, hi, h0, h1, hall, h22, h23, rfl⟩
    rcases Nat.lt_or_ge i re.kids.length with hlt | hge
    · obtain ⟨k, hk⟩ : ∃ k, re.kids[i]? = some k := ⟨_, List.getElem?_eq_getElem hlt⟩
      have hm := List.mem_of_getElem? hk
      have hks := hfk k hm
      simp only [vsA, vsB, vsC, appendWp, Nat.reduceShiftRight, Nat.reduceMod, Nat.reduceLT, Nat.reduceMul, Nat.reduceSub, Int.reduceToNat, Int.reduceNeg, Int.reduceLT, Int.reduceLE, Int.reduceEq, Nat.reduceEqDiff, Nat.reduceAdd, Nat.reduceLeDiff, reduceIte, reduceCtorEq, Nat.reduceBEq, tysA, h0, h1, h22, h23, i64, hlt, cellO]
      refine draw_c mix [] [(0, [0], []), (7, [0], [0])] (by rfl) ?_
      simp only [vsA, vsB, vsC, appendWp, Nat.reduceShiftRight, Nat.reduceMod, Nat.reduceLT, Nat.reduceMul, Nat.reduceSub, Int.reduceToNat, Int.reduceNeg, Int.reduceLT, Int.reduceLE, Int.reduceEq, Nat.reduceEqDiff, Nat.reduceAdd, Nat.reduceLeDiff, reduceIte, reduceCtorEq, Nat.reduceBEq, tysA, h0, h1, h22, h23, i64, hlt, hk, reEl, Re.cells_eq re, iD, bD]
      refine callF_one (ih k hm hks) rfl rfl rfl rfl rfl rfl ?_
      cases hkn : k.anul with
      | false =>
        simp only [vsA, vsB, vsC, appendWp, Nat.reduceShiftRight, Nat.reduceMod, Nat.reduceLT, Nat.reduceMul, Nat.reduceSub, Int.reduceToNat, Int.reduceNeg, Int.reduceLT, Int.reduceLE, Int.reduceEq, Nat.reduceEqDiff, Nat.reduceAdd, Nat.reduceLeDiff, reduceIte, reduceCtorEq, Nat.reduceBEq, tysA, h0, h1, h22, h23, i64, cellO, bV, hkn]
        refine ⟨re.kids.length - (i + 1), _, _, by omega, Cln.refl, i + 1, rfl, hlt, ?_, ?_, ?_, ?_, ?_, rfl⟩ <;> (try simp only [keepE_app, List.contains_cons, List.contains_nil, Nat.reduceBEq, Bool.or_false, Bool.false_or, Bool.or_true, Bool.true_or, updE, trimE_upd, trimE_trim, trimE_app, Nat.reduceShiftRight, Nat.reduceMod, Nat.reduceEqDiff, if_true, if_false, reduceIte])
        · simpa [reEl, Re.cells_eq re, iD, bD, o2] using h0
        · exact h1
        · intro x hx
          rw [take_get hk] at hx
          rcases List.mem_append.1 hx with hx | hx
          · exact hall x hx
          · rw [List.mem_singleton.1 hx]; exact hkn
        · exact h22
        · rw [w64 _ (by omega)]; rfl
      | true =>
        simp only [vsA, vsB, vsC, appendWp, Nat.reduceShiftRight, Nat.reduceMod, Nat.reduceLT, Nat.reduceMul, Nat.reduceSub, Int.reduceToNat, Int.reduceNeg, Int.reduceLT, Int.reduceLE, Int.reduceEq, Nat.reduceEqDiff, Nat.reduceAdd, Nat.reduceLeDiff, reduceIte, reduceCtorEq, Nat.reduceBEq, tysA, h0, h1, h22, h23, i64, cellO, bV, hkn]
        have : (re.kids.map Re.anul).any id = true := by rw [List.any_eq_true]; exact ⟨true, List.mem_map.2 ⟨k, hm, hkn⟩, by simp⟩
        rw [this]
        all_goals first | exact ⟨rfl, rfl⟩ | exact ⟨rfl, trivial⟩ | rfl | trivial | (rw [reV_eq]; rfl)
    · have hie : i = re.kids.length := by omega
      subst hie
      rw [List.take_length] at hall
      have : (re.kids.map Re.anul).any id = false := by rw [List.any_eq_false]; intro x hx; obtain ⟨y, hy, rfl⟩ := List.mem_map.1 hx; simp [hall y hy]
      rw [this]
      simp only [vsA, vsB, vsC, appendWp, Nat.reduceShiftRight, Nat.reduceMod, Nat.reduceLT, Nat.reduceMul, Nat.reduceSub, Int.reduceToNat, Int.reduceNeg, Int.reduceLT, Int.reduceLE, Int.reduceEq, Nat.reduceEqDiff, Nat.reduceAdd, Nat.reduceLeDiff, reduceIte, reduceCtorEq, Nat.reduceBEq, tysA, h0, h1, h22, h23, i64, cellO, Nat.lt_irrefl, bV]
      all_goals first | exact ⟨rfl, rfl⟩ | exact ⟨rfl, trivial⟩ | rfl | trivial | (rw [reV_eq]; rfl)

set_option maxRecDepth 100000 in
set_option maxHeartbeats 8000000 in
theorem nul_leaf (re : Re) (o1 : ¬ re.op = 2) (o2 : ¬ re.op = 3) (o3 : ¬ re.op = 10) (o4 : re.op = 4 → re.mn = 0) (o5 : ¬ re.op = 5) (o6 : ¬ re.op = 9) : NulOK re := by
  unfold NulOK
  by_cases p4 : re.op = 4
  · have hle : re.anul = true := by rw [Re.anul_eq, p4, o4 p4]; rfl
    rw [hle]
    have pm := o4 p4
    refine fn_ok Try.func58 rfl Try.ntmps58 Try.results58 rfl 1 13519594987718203 (by simp) (by simp) ?_
    simp only [vsA, vsB, vsC, appendWp, Nat.reduceShiftRight, Nat.reduceMod, Nat.reduceLT, Nat.reduceMul, Nat.reduceSub, Int.reduceToNat, Int.reduceNeg, Int.reduceLT, Int.reduceLE, Int.reduceEq, Nat.reduceEqDiff, Nat.reduceAdd, Nat.reduceLeDiff, reduceIte, reduceCtorEq, Nat.reduceBEq, tysA, i64, reEl, Re.cells_eq re, iD, bD, p4, pm, cellO, bV]
    all_goals first | exact ⟨rfl, rfl⟩ | exact ⟨rfl, trivial⟩ | rfl | trivial | (rw [reV_eq]; rfl)
  by_cases p : re.op = 0 ∨ re.op = 6 ∨ re.op = 7 ∨ re.op = 8 ∨ re.op = 11
  · have hle : re.anul = true := by rw [Re.anul_eq]; simp [anulOp, p]
    rw [hle]
    rcases p with p | p | p | p | p
    all_goals
      refine fn_ok Try.func58 rfl Try.ntmps58 Try.results58 rfl 1 13519594987718203 (by simp) (by simp) ?_
      simp only [vsA, vsB, vsC, appendWp, Nat.reduceShiftRight, Nat.reduceMod, Nat.reduceLT, Nat.reduceMul, Nat.reduceSub, Int.reduceToNat, Int.reduceNeg, Int.reduceLT, Int.reduceLE, Int.reduceEq, Nat.reduceEqDiff, Nat.reduceAdd, Nat.reduceLeDiff, reduceIte, reduceCtorEq, Nat.reduceBEq, tysA, i64, reEl, Re.cells_eq re, iD, bD, p, cellO, bV]
      all_goals first | exact ⟨rfl, rfl⟩ | exact ⟨rfl, trivial⟩ | rfl | trivial | (rw [reV_eq]; rfl)
  have hle : re.anul = false := by rw [Re.anul_eq]; simp [anulOp, p, o1, o2, o3, p4, o5, o6]
  rw [hle]
  have p0 : ¬ re.op = 0 := fun h => p (.inl h)
  have p6 : ¬ re.op = 6 := fun h => p (.inr (.inl h))
  have p7 : ¬ re.op = 7 := fun h => p (.inr (.inr (.inl h)))
  have p8 : ¬ re.op = 8 := fun h => p (.inr (.inr (.inr (.inl h))))
  have p11 : ¬ re.op = 11 := fun h => p (.inr (.inr (.inr (.inr h))))
  refine fn_ok Try.func58 rfl Try.ntmps58 Try.results58 rfl 1 13519594987718203 (by simp) (by simp) ?_
  simp only [vsA, vsB, vsC, appendWp, Nat.reduceShiftRight, Nat.reduceMod, Nat.reduceLT, Nat.reduceMul, Nat.reduceSub, Int.reduceToNat, Int.reduceNeg, Int.reduceLT, Int.reduceLE, Int.reduceEq, Nat.reduceEqDiff, Nat.reduceAdd, Nat.reduceLeDiff, reduceIte, reduceCtorEq, Nat.reduceBEq, tysA, i64, reEl, Re.cells_eq re, iD, bD, o1, o2, o3, p4, o5, o6, p0, p6, p7, p8, p11, cellO, bV]
  all_goals first | exact ⟨rfl, rfl⟩ | exact ⟨rfl, trivial⟩ | rfl | trivial | (rw [reV_eq]; rfl)

theorem nul_rec (re : Re) (hs : re.fine = true) : NulOK re := by
  revert hs
  refine Re.ind (Q := fun re => re.fine = true → NulOK re) (fun re ih hs => ?_) re
  by_cases o2 : re.op = 2
  · exact nul_cat re ih hs o2
  by_cases o : (re.op = 4 ∧ ¬ re.mn = 0) ∨ re.op = 3 ∨ re.op = 10 ∨ re.op = 5 ∨ re.op = 9
  · exact nul_any re ih hs o
  · exact nul_leaf re o2 (fun h => o (.inr (.inl h))) (fun h => o (.inr (.inr (.inl h)))) (fun h => by by_cases hm : re.mn = 0; exact hm; exact absurd (.inl ⟨h, hm⟩) o) (fun h => o (.inr (.inr (.inr (.inl h))))) (fun h => o (.inr (.inr (.inr (.inr h)))))

theorem nullable_ok (re : Re) (hs : re.fine = true) : PureOK Try.prog 15 [reV re] (bV re.anul) := by
  refine fn_ok Try.func15 rfl Try.ntmps15 Try.results15 rfl 0 15 (by simp) (by simp) ?_
  simp only [vsA, vsB, vsC, appendWp, Nat.reduceShiftRight, Nat.reduceMod, Nat.reduceLT, Nat.reduceMul, Nat.reduceSub, Int.reduceToNat, Int.reduceNeg, Int.reduceLT, Int.reduceLE, Int.reduceEq, Nat.reduceEqDiff, Nat.reduceAdd, Nat.reduceLeDiff, reduceIte, reduceCtorEq, Nat.reduceBEq, tysA, i64, reV_eq re, iD, bD]
  refine call_give [0] rfl ?_
  refine call_at (r' := bV re.anul) 1 (nul_rec re hs) (by rw [reEl, Re.cells_eq]; rfl) rfl rfl rfl rfl ?_
  simp only [vsA, vsB, vsC, appendWp, Nat.reduceShiftRight, Nat.reduceMod, Nat.reduceLT, Nat.reduceMul, Nat.reduceSub, Int.reduceToNat, Int.reduceNeg, Int.reduceLT, Int.reduceLE, Int.reduceEq, Nat.reduceEqDiff, Nat.reduceAdd, Nat.reduceLeDiff, reduceIte, reduceCtorEq, Nat.reduceBEq, tysA, i64, killO, kill1, renO, renV, renV.go, cellO, bV]
  all_goals first | exact ⟨rfl, rfl⟩ | exact ⟨rfl, trivial⟩ | rfl | trivial | (rw [reV_eq]; rfl)

end Go.Proofs.Ytafbdphblilenaa

set_option linter.unusedSimpArgs false
set_option linter.unusedVariables false
namespace Go.Proofs.Ytafbdphblilenaa
open Go.VL

def Re.kept (re : Re) : Bool := decide (re.mn = 0) && (decide (re.mx = -1) || decide (re.mx = 1))

set_option maxHeartbeats 2000000 in
theorem kept_ok (re : Re) : PureOK Try.prog 63 [reEl re] (bV re.kept) := by
  refine fn_ok Try.func63 rfl Try.ntmps63 Try.results63 rfl 0 5 (by simp) (by simp) ?_
  by_cases h1 : re.mn = 0
  · by_cases h2 : re.mx = -1
    · simp only [vsA, vsB, vsC, appendWp, Nat.reduceShiftRight, Nat.reduceMod, Nat.reduceLT, Nat.reduceMul, Nat.reduceSub, Int.reduceToNat, Int.reduceNeg, Int.reduceLT, Int.reduceLE, Int.reduceEq, Nat.reduceEqDiff, Nat.reduceAdd, Nat.reduceLeDiff, reduceIte, reduceCtorEq, Nat.reduceBEq, tysA, i64, reEl, Re.cells_eq re, iD, bD, h1, h2]
      simp [Re.kept, h1, h2, bV]
    · by_cases h3 : re.mx = 1
      · simp only [vsA, vsB, vsC, appendWp, Nat.reduceShiftRight, Nat.reduceMod, Nat.reduceLT, Nat.reduceMul, Nat.reduceSub, Int.reduceToNat, Int.reduceNeg, Int.reduceLT, Int.reduceLE, Int.reduceEq, Nat.reduceEqDiff, Nat.reduceAdd, Nat.reduceLeDiff, reduceIte, reduceCtorEq, Nat.reduceBEq, tysA, i64, reEl, Re.cells_eq re, iD, bD, h1, h2, h3]
        simp [Re.kept, h1, h3, bV]
      · simp only [vsA, vsB, vsC, appendWp, Nat.reduceShiftRight, Nat.reduceMod, Nat.reduceLT, Nat.reduceMul, Nat.reduceSub, Int.reduceToNat, Int.reduceNeg, Int.reduceLT, Int.reduceLE, Int.reduceEq, Nat.reduceEqDiff, Nat.reduceAdd, Nat.reduceLeDiff, reduceIte, reduceCtorEq, Nat.reduceBEq, tysA, i64, reEl, Re.cells_eq re, iD, bD, h1, h2, h3]
        simp [Re.kept, h1, h2, h3, bV]
  · simp only [vsA, vsB, vsC, appendWp, Nat.reduceShiftRight, Nat.reduceMod, Nat.reduceLT, Nat.reduceMul, Nat.reduceSub, Int.reduceToNat, Int.reduceNeg, Int.reduceLT, Int.reduceLE, Int.reduceEq, Nat.reduceEqDiff, Nat.reduceAdd, Nat.reduceLeDiff, reduceIte, reduceCtorEq, Nat.reduceBEq, tysA, i64, reEl, Re.cells_eq re, iD, bD, h1]
    simp [Re.kept, h1, bV]

theorem frz_data (n lim : Nat) (s : List VL.Obj) (ds : List (List D)) (k : Nat) (hk : ds.length ≤ k) : ((ds.map fun c => c.map V.d).take k).mapM (fun (e : List V) => e.mapM (frzD n lim s)) = some ds := by
  rw [List.take_of_length_le (by simpa using hk), mapM_frzE]

set_option maxHeartbeats 2000000 in
theorem cloneSpans_ok (l : List (Int × Int)) (hl : l.length ≤ 1000000000) : PureOK Try.prog 104 [.d (.sl (l.map spanC))] (.d (.sl (l.map spanC))) := by
  refine fn_ok Try.func104 rfl Try.ntmps104 Try.results104 rfl 0 5 (by simp) (by simp) ?_
  cases l with
  | nil =>
    simp only [vsA, vsB, vsC, appendWp, Nat.reduceShiftRight, Nat.reduceMod, Nat.reduceLT, Nat.reduceMul, Nat.reduceSub, Int.reduceToNat, Int.reduceNeg, Int.reduceLT, Int.reduceLE, Int.reduceEq, Nat.reduceEqDiff, Nat.reduceAdd, Nat.reduceLeDiff, reduceIte, reduceCtorEq, Nat.reduceBEq, tysA,]
    exact ⟨⟨_, rfl⟩, by simp, by simp⟩
  | cons x l =>
    simp only [vsA, vsB, vsC, appendWp, Nat.reduceShiftRight, Nat.reduceMod, Nat.reduceLT, Nat.reduceMul, Nat.reduceSub, Int.reduceToNat, Int.reduceNeg, Int.reduceLT, Int.reduceLE, Int.reduceEq, Nat.reduceEqDiff, Nat.reduceAdd, Nat.reduceLeDiff, reduceIte, reduceCtorEq, Nat.reduceBEq, tysA,]
    have he : (List.map V.d (spanC x) :: List.map (fun x => List.map V.d x) (List.map spanC l)) = ((x :: l).map spanC).map (fun c => c.map V.d) := rfl
    simp only [List.length_cons] at hl
    refine ⟨⟨_, rfl⟩, ?_, ⟨by omega, by simp⟩, ?_⟩
    · rw [he]; intro e hm
      obtain ⟨c, hc, rfl⟩ := List.mem_map.1 hm
      obtain ⟨y, _, rfl⟩ := List.mem_map.1 hc
      rfl
    · rw [he, frz_data 7 0 _ _ (0 + (l.length + 1)) (by simp), if_pos (by omega)]
      rfl

set_option maxHeartbeats 2000000 in
theorem repeat_ok (re : Re) (most mode : Int) : PureOK Try.prog 105 [reV re, i64 most, i64 mode] (reV (.mk 4 [] [re] 0 most mode 0 false)) := by
  refine fn_ok Try.func105 rfl Try.ntmps105 Try.results105 rfl 0 79 (by simp) (by simp) ?_
  simp only [vsA, vsB, vsC, appendWp, Nat.reduceShiftRight, Nat.reduceMod, Nat.reduceLT, Nat.reduceMul, Nat.reduceSub, Int.reduceToNat, Int.reduceNeg, Int.reduceLT, Int.reduceLE, Int.reduceEq, Nat.reduceEqDiff, Nat.reduceAdd, Nat.reduceLeDiff, reduceIte, reduceCtorEq, Nat.reduceBEq, tysA, i64]
  rw [reV_eq]; rfl

def joinR (l : List Re) : Re :=
  match l with
  | [x] => x
  | _ => .mk 2 [] l 0 0 0 0 false

set_option maxHeartbeats 2000000 in
theorem join_ok (l : List Re) : PureOK Try.prog 106 [.d (.sl (l.map Re.cells))] (reV (joinR l)) := by
  refine fn_ok Try.func106 rfl Try.ntmps106 Try.results106 rfl 0 5 (by simp) (by simp) ?_
  rcases l with _ | ⟨x, _ | ⟨y, l⟩⟩
  · simp only [vsA, vsB, vsC, appendWp, Nat.reduceShiftRight, Nat.reduceMod, Nat.reduceLT, Nat.reduceMul, Nat.reduceSub, Int.reduceToNat, Int.reduceNeg, Int.reduceLT, Int.reduceLE, Int.reduceEq, Nat.reduceEqDiff, Nat.reduceAdd, Nat.reduceLeDiff, reduceIte, reduceCtorEq, Nat.reduceBEq, tysA, Int.natCast_zero]
    rw [reV_eq]; rfl
  · rw [show joinR [x] = x from rfl]
    simp only [vsA, vsB, vsC, appendWp, Nat.reduceShiftRight, Nat.reduceMod, Nat.reduceLT, Nat.reduceMul, Nat.reduceSub, Int.reduceToNat, Int.reduceNeg, Int.reduceLT, Int.reduceLE, Int.reduceEq, Nat.reduceEqDiff, Nat.reduceAdd, Nat.reduceLeDiff, reduceIte, reduceCtorEq, Nat.reduceBEq, tysA, Int.natCast_one, Re.cells_eq x, reV_eq x, iD, bD]
    all_goals first | exact ⟨rfl, rfl⟩ | exact ⟨rfl, trivial⟩ | rfl | trivial | (rw [reV_eq]; rfl)
  · have hn : ¬ ((l.length : Int) + 1 + 1 = 1) := by omega
    simp only [vsA, vsB, vsC, appendWp, Nat.reduceShiftRight, Nat.reduceMod, Nat.reduceLT, Nat.reduceMul, Nat.reduceSub, Int.reduceToNat, Int.reduceNeg, Int.reduceLT, Int.reduceLE, Int.reduceEq, Nat.reduceEqDiff, Nat.reduceAdd, Nat.reduceLeDiff, reduceIte, reduceCtorEq, Nat.reduceBEq, tysA, hn, Int.natCast_add, Int.natCast_one]
    rw [reV_eq]; rfl

end Go.Proofs.Ytafbdphblilenaa

set_option linter.unusedSimpArgs false
set_option linter.unusedVariables false
namespace Go.Proofs.Ytafbdphblilenaa
open Go.VL

def cntO (c : Int) : VL.Obj := ⟨0, true, 1, [[i64 c]]⟩
def cell2O (f : FuncId) : VL.Obj := ⟨0, true, 1, [[.cl (.func f) [] [.rf 0 0 0 0, .rf 1 0 0 0]]]⟩

def SizeOK (re : Re) : Prop := ∀ c : Int, 0 ≤ c → c + re.size ≤ 1000000000 →
  callWp Try.prog 80 [reEl re, .rf 0 0 0 0, .rf 1 0 0 0] [cntO c, cell2O 80] fun v s => v = .tu [] ∧ s = [cntO (c + re.size), cell2O 80]

set_option maxRecDepth 100000 in
set_option maxHeartbeats 8000000 in
theorem size_rec (re : Re) : SizeOK re := by
  refine Re.ind (Q := SizeOK) (fun re ih => ?_) re
  intro c hc hs
  have hlen := Re.len_le re.kids
  have hsz := Re.size_eq re
  have w1 : IntKind.i64.wrap (c + 1) = c + 1 := w64 _ (by omega)
  refine fn_ok Try.func80 rfl Try.ntmps80 Try.results80 rfl 2 6167 (by simp) (by simp) ?_
  simp only [vsA, vsB, vsC, appendWp, Nat.reduceShiftRight, Nat.reduceMod, Nat.reduceLT, Nat.reduceMul, Nat.reduceSub, Int.reduceToNat, Int.reduceNeg, Int.reduceLT, Int.reduceLE, Int.reduceEq, Nat.reduceEqDiff, Nat.reduceAdd, Nat.reduceLeDiff, reduceIte, reduceCtorEq, Nat.reduceBEq, tysA, i64, cntO, cell2O, reEl, Re.cells_eq re, iD, bD, w1]
  refine loop_rule (fun n e s => ∃ i : Nat, n = re.kids.length - i ∧ i ≤ re.kids.length ∧ e 0 = reEl re ∧ e 1 = .rf 0 0 0 0 ∧ e 2 = .rf 1 0 0 0 ∧ e 11 = i64 re.kids.length ∧ e 12 = i64 i ∧ s = [cntO (c + 1 + (Re.sizeL (re.kids.take i) : Nat)), cell2O 80])
    ⟨_, _, _, Cln.refl, 0, rfl, by omega, by simp [reEl, Re.cells_eq re, iD, bD]; rfl, rfl, rfl, rfl, rfl, by simp [Re.sizeL, cntO, cell2O, i64]⟩ ?_
  rintro n e s ⟨i, rfl, hi, h0, h1, h2, h11, h12, rfl⟩
  rcases Nat.lt_or_ge i re.kids.length with hlt | hge
  · obtain ⟨k, hk⟩ : ∃ k, re.kids[i]? = some k := ⟨_, List.getElem?_eq_getElem hlt⟩
    have hm := List.mem_of_getElem? hk
    have hsum : (Re.sizeL (re.kids.take (i + 1)) : Nat) = Re.sizeL (re.kids.take i) + k.size := by rw [take_get hk, Re.sizeL_append]; simp [Re.sizeL]
    have hle := Re.sizeL_take re.kids (i + 1)
    have hk0 := ih k hm (c + 1 + (Re.sizeL (re.kids.take i) : Nat)) (by omega) (by omega)
    simp only [vsA, vsB, vsC, appendWp, Nat.reduceShiftRight, Nat.reduceMod, Nat.reduceLT, Nat.reduceMul, Nat.reduceSub, Int.reduceToNat, Int.reduceNeg, Int.reduceLT, Int.reduceLE, Int.reduceEq, Nat.reduceEqDiff, Nat.reduceAdd, Nat.reduceLeDiff, reduceIte, reduceCtorEq, Nat.reduceBEq, tysA, i64, cntO, cell2O, reEl, Re.cells_eq re, iD, bD, h0, h1, h2, h11, h12, hlt]
    refine draw_c mix [] [(0, [1], []), (7, [0, 1], [0, 1])] (by rfl) ?_
    simp only [vsA, vsB, vsC, appendWp, Nat.reduceShiftRight, Nat.reduceMod, Nat.reduceLT, Nat.reduceMul, Nat.reduceSub, Int.reduceToNat, Int.reduceNeg, Int.reduceLT, Int.reduceLE, Int.reduceEq, Nat.reduceEqDiff, Nat.reduceAdd, Nat.reduceLeDiff, reduceIte, reduceCtorEq, Nat.reduceBEq, tysA, i64, cntO, cell2O, reEl, Re.cells_eq re, iD, bD, h0, h1, h2, h11, h12, hlt, hk]
    refine callF_two hk0 (by simp [renV, reEl]) (by simp [refsV, refsV.go, reEl]) rfl rfl rfl rfl rfl rfl rfl ?_
    simp only [vsA, vsB, vsC, appendWp, Nat.reduceShiftRight, Nat.reduceMod, Nat.reduceLT, Nat.reduceMul, Nat.reduceSub, Int.reduceToNat, Int.reduceNeg, Int.reduceLT, Int.reduceLE, Int.reduceEq, Nat.reduceEqDiff, Nat.reduceAdd, Nat.reduceLeDiff, reduceIte, reduceCtorEq, Nat.reduceBEq, tysA, i64, cntO, cell2O, reEl, Re.cells_eq re, iD, bD, h0, h1, h2, h11, h12]
    refine ⟨re.kids.length - (i + 1), _, _, by omega, Cln.refl, i + 1, rfl, hlt, ?_, ?_, ?_, ?_, ?_, ?_⟩ <;> (try simp only [keepE_app, List.contains_cons, List.contains_nil, Nat.reduceBEq, Bool.or_false, Bool.false_or, Bool.or_true, Bool.true_or, updE, trimE_upd, trimE_trim, trimE_app, Nat.reduceShiftRight, Nat.reduceMod, Nat.reduceEqDiff, if_true, if_false, reduceIte])
    · simpa [reEl, Re.cells_eq re, iD, bD] using h0
    · exact h1
    · exact h2
    · exact h11
    · rw [w64 _ (by omega)]; rfl
    · rw [hsum]; simp [Int.add_assoc]
  · have hie : i = re.kids.length := by omega
    subst hie
    simp only [vsA, vsB, vsC, appendWp, Nat.reduceShiftRight, Nat.reduceMod, Nat.reduceLT, Nat.reduceMul, Nat.reduceSub, Int.reduceToNat, Int.reduceNeg, Int.reduceLT, Int.reduceLE, Int.reduceEq, Nat.reduceEqDiff, Nat.reduceAdd, Nat.reduceLeDiff, reduceIte, reduceCtorEq, Nat.reduceBEq, tysA, i64, cntO, cell2O, reEl, Re.cells_eq re, iD, bD, h0, h1, h2, h11, h12, Nat.lt_irrefl, List.take_length]
    rw [hsz]
    simp [Int.add_assoc]

theorem size_ok (re : Re) (hs : re.size ≤ 1000000000) : PureOK Try.prog 40 [reV re] (i64 re.size) := by
  refine fn_ok Try.func40 rfl Try.ntmps40 Try.results40 rfl 0 31 (by simp) (by simp) ?_
  simp only [vsA, vsB, vsC, appendWp, Nat.reduceShiftRight, Nat.reduceMod, Nat.reduceLT, Nat.reduceMul, Nat.reduceSub, Int.reduceToNat, Int.reduceNeg, Int.reduceLT, Int.reduceLE, Int.reduceEq, Nat.reduceEqDiff, Nat.reduceAdd, Nat.reduceLeDiff, reduceIte, reduceCtorEq, Nat.reduceBEq, tysA, i64, reV_eq re, iD, bD]
  refine call_give [0] rfl ?_
  have hz := size_rec re 0 (by omega) (by omega)
  rw [Int.zero_add] at hz
  refine call_at2 (r' := .tu []) 1 2 (by decide) hz (by rw [reEl, Re.cells_eq]; rfl) (by simp [refsV, refsV.go, reEl]) rfl rfl rfl rfl rfl ?_
  simp only [vsA, vsB, vsC, appendWp, Nat.reduceShiftRight, Nat.reduceMod, Nat.reduceLT, Nat.reduceMul, Nat.reduceSub, Int.reduceToNat, Int.reduceNeg, Int.reduceLT, Int.reduceLE, Int.reduceEq, Nat.reduceEqDiff, Nat.reduceAdd, Nat.reduceLeDiff, reduceIte, reduceCtorEq, Nat.reduceBEq, tysA, i64, killO, kill1, renO, renV, renV.go, cntO, cell2O]
  all_goals first | exact ⟨rfl, rfl⟩ | exact ⟨rfl, trivial⟩ | rfl | trivial | (rw [reV_eq]; rfl)

/-! ### Depth -/

mutual
def Re.depth : Re → Int
  | .mk _ _ kids _ _ _ _ _ => Re.depthL kids 0 + 1
def Re.depthL : List Re → Int → Int
  | [], a => a
  | k :: l, a => Re.depthL l (max a k.depth)
end

def maxL (l : List Int) : Int := l.foldl max 0

theorem Re.depthL_eq : ∀ (l : List Re) (a : Int), Re.depthL l a = (l.map Re.depth).foldl max a
  | [], a => by simp [Re.depthL]
  | k :: l, a => by simp [Re.depthL, Re.depthL_eq l]

theorem Re.depth_eq (re : Re) : re.depth = maxL (re.kids.map Re.depth) + 1 := by
  cases re; simp [Re.depth, Re.depthL_eq, Re.kids, maxL]

theorem maxL_snoc (l : List Int) (k : Int) : maxL (l ++ [k]) = max (maxL l) k := by simp [maxL, List.foldl_append]

theorem foldl_max_le {b : Int} : ∀ (l : List Int) (a : Int), a ≤ b → (∀ x ∈ l, x ≤ b) → l.foldl max a ≤ b
  | [], a, h, _ => h
  | x :: l, a, h, hl => foldl_max_le l (max a x) (by have := hl x (by simp); omega) (fun y hy => hl y (by simp [hy]))

theorem le_foldl_max : ∀ (l : List Int) (a : Int), a ≤ l.foldl max a
  | [], a => Int.le_refl _
  | x :: l, a => Int.le_trans (by omega) (le_foldl_max l (max a x))

theorem Re.depth_le (re : Re) : 0 ≤ re.depth ∧ re.depth ≤ re.size := by
  refine Re.ind (Q := fun re => 0 ≤ re.depth ∧ re.depth ≤ re.size) (fun re ih => ?_) re
  rw [Re.depth_eq, Re.size_eq]
  have h1 := le_foldl_max (re.kids.map Re.depth) 0
  have h2 : maxL (re.kids.map Re.depth) ≤ (Re.sizeL re.kids : Nat) := foldl_max_le _ _ (by omega) (fun x hx => by
    obtain ⟨k, hk, rfl⟩ := List.mem_map.1 hx
    have := Re.sizeL_mem hk
    have := (ih k hk).2
    omega)
  unfold maxL at *
  omega

def DepthOK (re : Re) : Prop := callWp Try.prog 84 [reEl re, .rf 0 0 0 0] [cellO 84] fun v s => v = i64 re.depth ∧ s = [cellO 84]

set_option maxRecDepth 100000 in
set_option maxHeartbeats 8000000 in
theorem depth_rec (re : Re) (hs : re.size ≤ 1000000000) : DepthOK re := by
  revert hs
  refine Re.ind (Q := fun re => re.size ≤ 1000000000 → DepthOK re) (fun re ih hs => ?_) re
  have hlen := Re.len_le re.kids
  have hsz := Re.size_eq re
  have hd := Re.depth_le re
  unfold DepthOK
  rw [Re.depth_eq] at hd ⊢
  refine fn_ok Try.func84 rfl Try.ntmps84 Try.results84 rfl 1 3131 (by simp) (by simp) ?_
  simp only [vsA, vsB, vsC, appendWp, Nat.reduceShiftRight, Nat.reduceMod, Nat.reduceLT, Nat.reduceMul, Nat.reduceSub, Int.reduceToNat, Int.reduceNeg, Int.reduceLT, Int.reduceLE, Int.reduceEq, Nat.reduceEqDiff, Nat.reduceAdd, Nat.reduceLeDiff, reduceIte, reduceCtorEq, Nat.reduceBEq, tysA, i64, reEl, Re.cells_eq re, iD, bD, cellO]
  refine loop_rule (fun n e s => ∃ i : Nat, n = re.kids.length - i ∧ i ≤ re.kids.length ∧ e 0 = reEl re ∧ e 1 = .rf 0 0 0 0 ∧ e 4 = i64 (maxL ((re.kids.take i).map Re.depth)) ∧ e 10 = i64 re.kids.length ∧ e 11 = i64 i ∧ s = [cellO 84])
    ⟨_, _, _, Cln.refl, 0, rfl, by omega, by simp [reEl, Re.cells_eq re, iD, bD]; rfl, rfl, rfl, rfl, rfl, rfl⟩ ?_
  rintro n e s ⟨i, rfl, hi, h0, h1, h4, h10, h11, rfl⟩
  rcases Nat.lt_or_ge i re.kids.length with hlt | hge
  · obtain ⟨k, hk⟩ : ∃ k, re.kids[i]? = some k := ⟨_, List.getElem?_eq_getElem hlt⟩
    have hm := List.mem_of_getElem? hk
    have hks := Re.size_kid hm
    simp only [vsA, vsB, vsC, appendWp, Nat.reduceShiftRight, Nat.reduceMod, Nat.reduceLT, Nat.reduceMul, Nat.reduceSub, Int.reduceToNat, Int.reduceNeg, Int.reduceLT, Int.reduceLE, Int.reduceEq, Nat.reduceEqDiff, Nat.reduceAdd, Nat.reduceLeDiff, reduceIte, reduceCtorEq, Nat.reduceBEq, tysA, i64, h0, h1, h4, h10, h11, hlt, cellO]
    refine draw_c mix [] [(1, [0], []), (8, [0], [0])] (by rfl) ?_
    simp only [vsA, vsB, vsC, appendWp, Nat.reduceShiftRight, Nat.reduceMod, Nat.reduceLT, Nat.reduceMul, Nat.reduceSub, Int.reduceToNat, Int.reduceNeg, Int.reduceLT, Int.reduceLE, Int.reduceEq, Nat.reduceEqDiff, Nat.reduceAdd, Nat.reduceLeDiff, reduceIte, reduceCtorEq, Nat.reduceBEq, tysA, i64, h0, h1, h4, h10, h11, hlt, hk, reEl, Re.cells_eq re, iD, bD]
    refine callF_one (ih k hm (by omega)) rfl rfl rfl rfl rfl rfl ?_
    simp only [vsA, vsB, vsC, appendWp, Nat.reduceShiftRight, Nat.reduceMod, Nat.reduceLT, Nat.reduceMul, Nat.reduceSub, Int.reduceToNat, Int.reduceNeg, Int.reduceLT, Int.reduceLE, Int.reduceEq, Nat.reduceEqDiff, Nat.reduceAdd, Nat.reduceLeDiff, reduceIte, reduceCtorEq, Nat.reduceBEq, tysA, i64, h0, h1, h4, h10, h11, cellO]
    refine ⟨re.kids.length - (i + 1), _, _, by omega, Cln.refl, i + 1, rfl, hlt, ?_, ?_, ?_, ?_, ?_, rfl⟩ <;> (try simp only [keepE_app, List.contains_cons, List.contains_nil, Nat.reduceBEq, Bool.or_false, Bool.false_or, Bool.or_true, Bool.true_or, updE, trimE_upd, trimE_trim, trimE_app, Nat.reduceShiftRight, Nat.reduceMod, Nat.reduceEqDiff, if_true, if_false, reduceIte])
    · simpa [reEl, Re.cells_eq re, iD, bD] using h0
    · exact h1
    · rw [take_get hk, List.map_append, List.map_cons, List.map_nil, maxL_snoc]
    · exact h10
    · rw [w64 _ (by omega)]; rfl
  · have hie : i = re.kids.length := by omega
    subst hie
    rw [List.take_length] at h4
    have w1 : IntKind.i64.wrap (maxL (re.kids.map Re.depth) + 1) = maxL (re.kids.map Re.depth) + 1 := w64 _ (by omega)
    simp only [vsA, vsB, vsC, appendWp, Nat.reduceShiftRight, Nat.reduceMod, Nat.reduceLT, Nat.reduceMul, Nat.reduceSub, Int.reduceToNat, Int.reduceNeg, Int.reduceLT, Int.reduceLE, Int.reduceEq, Nat.reduceEqDiff, Nat.reduceAdd, Nat.reduceLeDiff, reduceIte, reduceCtorEq, Nat.reduceBEq, tysA, i64, h0, h1, h4, h10, h11, cellO, Nat.lt_irrefl, w1]
    all_goals first | exact ⟨rfl, rfl⟩ | exact ⟨rfl, trivial⟩ | rfl | trivial | (rw [reV_eq]; rfl)

theorem depth_ok (re : Re) (hs : re.size ≤ 1000000000) : PureOK Try.prog 43 [reV re] (i64 re.depth) := by
  refine fn_ok Try.func43 rfl Try.ntmps43 Try.results43 rfl 0 15 (by simp) (by simp) ?_
  simp only [vsA, vsB, vsC, appendWp, Nat.reduceShiftRight, Nat.reduceMod, Nat.reduceLT, Nat.reduceMul, Nat.reduceSub, Int.reduceToNat, Int.reduceNeg, Int.reduceLT, Int.reduceLE, Int.reduceEq, Nat.reduceEqDiff, Nat.reduceAdd, Nat.reduceLeDiff, reduceIte, reduceCtorEq, Nat.reduceBEq, tysA, i64, reV_eq re, iD, bD]
  refine call_give [0] rfl ?_
  refine call_at (r' := i64 re.depth) 1 (depth_rec re hs) (by rw [reEl, Re.cells_eq]; rfl) rfl rfl rfl rfl ?_
  simp only [vsA, vsB, vsC, appendWp, Nat.reduceShiftRight, Nat.reduceMod, Nat.reduceLT, Nat.reduceMul, Nat.reduceSub, Int.reduceToNat, Int.reduceNeg, Int.reduceLT, Int.reduceLE, Int.reduceEq, Nat.reduceEqDiff, Nat.reduceAdd, Nat.reduceLeDiff, reduceIte, reduceCtorEq, Nat.reduceBEq, tysA, i64, killO, kill1, renO, renV, renV.go, cellO]
  all_goals first | exact ⟨rfl, rfl⟩ | exact ⟨rfl, trivial⟩ | rfl | trivial | (rw [reV_eq]; rfl)

end Go.Proofs.Ytafbdphblilenaa

set_option linter.unusedSimpArgs false
set_option linter.unusedVariables false
namespace Go.Proofs.Ytafbdphblilenaa
open Go.VL

/-! ### The reference's lengths -/

set_option maxHeartbeats 1000000 in
theorem refPlus_ok (a b : Int) : PureOK Try.prog 70 [i64 a, i64 b] (i64 (lplus a b)) := by
  refine fn_ok Try.func70 rfl Try.ntmps70 Try.results70 rfl 0 19 (by simp) (by simp) ?_
  by_cases ha : a < 0
  · simp only [vsA, vsB, vsC, appendWp, Nat.reduceShiftRight, Nat.reduceMod, Nat.reduceLT, Nat.reduceMul, Nat.reduceSub, Int.reduceToNat, Int.reduceNeg, Int.reduceLT, Int.reduceLE, Int.reduceEq, Nat.reduceEqDiff, Nat.reduceAdd, Nat.reduceLeDiff, reduceIte, reduceCtorEq, Nat.reduceBEq, tysA, i64, ha]
    simp [lplus, ha]
  · by_cases hb : b < 0
    · simp only [vsA, vsB, vsC, appendWp, Nat.reduceShiftRight, Nat.reduceMod, Nat.reduceLT, Nat.reduceMul, Nat.reduceSub, Int.reduceToNat, Int.reduceNeg, Int.reduceLT, Int.reduceLE, Int.reduceEq, Nat.reduceEqDiff, Nat.reduceAdd, Nat.reduceLeDiff, reduceIte, reduceCtorEq, Nat.reduceBEq, tysA, i64, ha, hb]
      simp [lplus, ha, hb]
    · simp only [vsA, vsB, vsC, appendWp, Nat.reduceShiftRight, Nat.reduceMod, Nat.reduceLT, Nat.reduceMul, Nat.reduceSub, Int.reduceToNat, Int.reduceNeg, Int.reduceLT, Int.reduceLE, Int.reduceEq, Nat.reduceEqDiff, Nat.reduceAdd, Nat.reduceLeDiff, reduceIte, reduceCtorEq, Nat.reduceBEq, tysA, i64, ha, hb]
      simp [lplus, ha, hb]

set_option maxHeartbeats 1000000 in
theorem refGreater_ok (a b : Int) : PureOK Try.prog 71 [i64 a, i64 b] (i64 (lgreater a b)) := by
  refine fn_ok Try.func71 rfl Try.ntmps71 Try.results71 rfl 0 19 (by simp) (by simp) ?_
  by_cases ha : a < 0
  · simp only [vsA, vsB, vsC, appendWp, Nat.reduceShiftRight, Nat.reduceMod, Nat.reduceLT, Nat.reduceMul, Nat.reduceSub, Int.reduceToNat, Int.reduceNeg, Int.reduceLT, Int.reduceLE, Int.reduceEq, Nat.reduceEqDiff, Nat.reduceAdd, Nat.reduceLeDiff, reduceIte, reduceCtorEq, Nat.reduceBEq, tysA, i64, ha]
    simp [lgreater, ha]
  · by_cases hb : b < 0
    · simp only [vsA, vsB, vsC, appendWp, Nat.reduceShiftRight, Nat.reduceMod, Nat.reduceLT, Nat.reduceMul, Nat.reduceSub, Int.reduceToNat, Int.reduceNeg, Int.reduceLT, Int.reduceLE, Int.reduceEq, Nat.reduceEqDiff, Nat.reduceAdd, Nat.reduceLeDiff, reduceIte, reduceCtorEq, Nat.reduceBEq, tysA, i64, ha, hb]
      simp [lgreater, ha, hb]
    · simp only [vsA, vsB, vsC, appendWp, Nat.reduceShiftRight, Nat.reduceMod, Nat.reduceLT, Nat.reduceMul, Nat.reduceSub, Int.reduceToNat, Int.reduceNeg, Int.reduceLT, Int.reduceLE, Int.reduceEq, Nat.reduceEqDiff, Nat.reduceAdd, Nat.reduceLeDiff, reduceIte, reduceCtorEq, Nat.reduceBEq, tysA, i64, ha, hb]
      simp [lgreater, ha, hb]

set_option maxHeartbeats 1000000 in
theorem refTimes_ok (a b : Int) : PureOK Try.prog 72 [i64 a, i64 b] (i64 (ltimes a b)) := by
  refine fn_ok Try.func72 rfl Try.ntmps72 Try.results72 rfl 0 19 (by simp) (by simp) ?_
  by_cases ha0 : a = 0
  · simp only [vsA, vsB, vsC, appendWp, Nat.reduceShiftRight, Nat.reduceMod, Nat.reduceLT, Nat.reduceMul, Nat.reduceSub, Int.reduceToNat, Int.reduceNeg, Int.reduceLT, Int.reduceLE, Int.reduceEq, Nat.reduceEqDiff, Nat.reduceAdd, Nat.reduceLeDiff, reduceIte, reduceCtorEq, Nat.reduceBEq, tysA, i64, ha0]
    simp [ltimes, ha0]
  by_cases hb0 : b = 0
  · simp only [vsA, vsB, vsC, appendWp, Nat.reduceShiftRight, Nat.reduceMod, Nat.reduceLT, Nat.reduceMul, Nat.reduceSub, Int.reduceToNat, Int.reduceNeg, Int.reduceLT, Int.reduceLE, Int.reduceEq, Nat.reduceEqDiff, Nat.reduceAdd, Nat.reduceLeDiff, reduceIte, reduceCtorEq, Nat.reduceBEq, tysA, i64, ha0, hb0]
    simp [ltimes, ha0, hb0]
  by_cases ha : a < 0
  · simp only [vsA, vsB, vsC, appendWp, Nat.reduceShiftRight, Nat.reduceMod, Nat.reduceLT, Nat.reduceMul, Nat.reduceSub, Int.reduceToNat, Int.reduceNeg, Int.reduceLT, Int.reduceLE, Int.reduceEq, Nat.reduceEqDiff, Nat.reduceAdd, Nat.reduceLeDiff, reduceIte, reduceCtorEq, Nat.reduceBEq, tysA, i64, ha0, hb0, ha]
    simp [ltimes, ha0, hb0, ha]
  · by_cases hb : b < 0
    · simp only [vsA, vsB, vsC, appendWp, Nat.reduceShiftRight, Nat.reduceMod, Nat.reduceLT, Nat.reduceMul, Nat.reduceSub, Int.reduceToNat, Int.reduceNeg, Int.reduceLT, Int.reduceLE, Int.reduceEq, Nat.reduceEqDiff, Nat.reduceAdd, Nat.reduceLeDiff, reduceIte, reduceCtorEq, Nat.reduceBEq, tysA, i64, ha0, hb0, ha, hb]
      simp [ltimes, ha0, hb0, ha, hb]
    · simp only [vsA, vsB, vsC, appendWp, Nat.reduceShiftRight, Nat.reduceMod, Nat.reduceLT, Nat.reduceMul, Nat.reduceSub, Int.reduceToNat, Int.reduceNeg, Int.reduceLT, Int.reduceLE, Int.reduceEq, Nat.reduceEqDiff, Nat.reduceAdd, Nat.reduceLeDiff, reduceIte, reduceCtorEq, Nat.reduceBEq, tysA, i64, ha0, hb0, ha, hb]
      simp [ltimes, ha0, hb0, ha, hb]

end Go.Proofs.Ytafbdphblilenaa

namespace Go.Proofs.Ytafbdphblilenaa
open Go.VL

theorem frzV_go_d (lim : Nat) (s : List VL.Obj) : ∀ l : List D, frzV.go lim s (l.map V.d) = some (l.map V.d)
  | [] => rfl
  | x :: l => by rw [List.map_cons, frzV.go, frzV_go_d lim s l]; rfl

theorem frzV_reV (lim : Nat) (s : List VL.Obj) (re : Re) : frzV lim s (reV re) = some (reV re) := by
  unfold reV; rw [frzV, frzV_go_d]; rfl

theorem refsV_reV (lim : Nat) (re : Re) : refsV lim (reV re) = true := by
  unfold reV; rw [refsV, refsV_go_d]

end Go.Proofs.Ytafbdphblilenaa

set_option linter.unusedSimpArgs false
set_option linter.unusedVariables false
namespace Go.Proofs.Ytafbdphblilenaa
open Go.VL

/-! ### The reference's depth, and what a node uses -/

set_option maxRecDepth 100000 in
set_option maxHeartbeats 8000000 in
theorem refDepth_ok (re : Re) (hs : re.size ≤ 1000000000) : PureOK Try.prog 44 [reV re] (i64 re.depth) := by
  revert hs
  refine Re.ind (Q := fun re => re.size ≤ 1000000000 → PureOK Try.prog 44 [reV re] (i64 re.depth)) (fun re ih hs => ?_) re
  have hlen := Re.len_le re.kids
  have hsz := Re.size_eq re
  have hd := Re.depth_le re
  rw [Re.depth_eq] at hd ⊢
  refine fn_ok Try.func44 rfl Try.ntmps44 Try.results44 rfl 0 31 (by simp) (by simp) ?_
  simp only [vsA, vsB, vsC, appendWp, Nat.reduceShiftRight, Nat.reduceMod, Nat.reduceLT, Nat.reduceMul, Nat.reduceSub, Int.reduceToNat, Int.reduceNeg, Int.reduceLT, Int.reduceLE, Int.reduceEq, Nat.reduceEqDiff, Nat.reduceAdd, Nat.reduceLeDiff, reduceIte, reduceCtorEq, Nat.reduceBEq, tysA, i64, reV_eq re, iD, bD]
  refine loop_rule (fun n e s => ∃ i : Nat, n = re.kids.length - i ∧ i ≤ re.kids.length ∧ e 1 = .rf 0 0 0 0 ∧ e 3 = i64 (maxL ((re.kids.take i).map Re.depth)) ∧ e 4 = i64 i ∧ s = [⟨0, true, 8, [re.cells.map .d]⟩])
    ⟨_, _, _, Cln.refl, 0, rfl, by omega, rfl, rfl, rfl, by rw [Re.cells_eq re]; rfl⟩ ?_
  rintro n e s ⟨i, rfl, hi, h1, h3, h4, rfl⟩
  rcases Nat.lt_or_ge i re.kids.length with hlt | hge
  · obtain ⟨k, hk⟩ : ∃ k, re.kids[i]? = some k := ⟨_, List.getElem?_eq_getElem hlt⟩
    have hm := List.mem_of_getElem? hk
    have hks := Re.size_kid hm
    simp only [vsA, vsB, vsC, appendWp, Nat.reduceShiftRight, Nat.reduceMod, Nat.reduceLT, Nat.reduceMul, Nat.reduceSub, Int.reduceToNat, Int.reduceNeg, Int.reduceLT, Int.reduceLE, Int.reduceEq, Nat.reduceEqDiff, Nat.reduceAdd, Nat.reduceLeDiff, reduceIte, reduceCtorEq, Nat.reduceBEq, tysA, i64, Re.cells_eq re, iD, bD, h1, h3, h4, hlt, hk]
    refine call_pure (ih k hm (by omega)) (by simp [refsV, refsV.go, reV_eq, i64, bV, reEl]) (by simp [refsV, refsV.go, reV_eq, i64, bV, reEl]) ?_
    simp only [vsA, vsB, vsC, appendWp, Nat.reduceShiftRight, Nat.reduceMod, Nat.reduceLT, Nat.reduceMul, Nat.reduceSub, Int.reduceToNat, Int.reduceNeg, Int.reduceLT, Int.reduceLE, Int.reduceEq, Nat.reduceEqDiff, Nat.reduceAdd, Nat.reduceLeDiff, reduceIte, reduceCtorEq, Nat.reduceBEq, tysA, i64, Re.cells_eq re, iD, bD, h1, h3, h4]
    refine ⟨re.kids.length - (i + 1), _, _, by omega, Cln.refl, i + 1, rfl, hlt, ?_, ?_, ?_, rfl⟩ <;> (try simp only [keepE_app, List.contains_cons, List.contains_nil, Nat.reduceBEq, Bool.or_false, Bool.false_or, Bool.or_true, Bool.true_or, updE, trimE_upd, trimE_trim, trimE_app, Nat.reduceShiftRight, Nat.reduceMod, Nat.reduceEqDiff, if_true, if_false, reduceIte])
    · exact h1
    · rw [take_get hk, List.map_append, List.map_cons, List.map_nil, maxL_snoc]
    · rw [w64 _ (by omega)]; rfl
  · have hie : i = re.kids.length := by omega
    subst hie
    rw [List.take_length] at h3
    have w1 : IntKind.i64.wrap (maxL (re.kids.map Re.depth) + 1) = maxL (re.kids.map Re.depth) + 1 := w64 _ (by omega)
    simp only [vsA, vsB, vsC, appendWp, Nat.reduceShiftRight, Nat.reduceMod, Nat.reduceLT, Nat.reduceMul, Nat.reduceSub, Int.reduceToNat, Int.reduceNeg, Int.reduceLT, Int.reduceLE, Int.reduceEq, Nat.reduceEqDiff, Nat.reduceAdd, Nat.reduceLeDiff, reduceIte, reduceCtorEq, Nat.reduceBEq, tysA, i64, Re.cells_eq re, iD, bD, h1, h3, h4, Nat.lt_irrefl, w1]
    all_goals first | exact ⟨rfl, rfl⟩ | exact ⟨rfl, trivial⟩ | rfl | trivial | (rw [reV_eq]; rfl)

/-- What a node uses; nul: whether its first kid can be empty. -/
def usesN (op mode : Int) (nul : List Bool) : Int :=
  if op = 6 then 1 else if op = 10 then 2 else if op = 7 ∨ op = 8 then 4 else if op = 9 then 8 else if op = 11 then 16 else if op = 5 then 64
  else if op = 4 then
    let u := if mode = 2 then bitV .or .i64 0 8 else 0
    if nul.headD false = true then bitV .or .i64 u 32 else u
  else 0

set_option maxRecDepth 100000 in
set_option maxHeartbeats 8000000 in
theorem usesOf_ok (re : Re) (hs : re.fine = true) : PureOK Try.prog 74 [reEl re] (i64 (usesN re.op re.mode (re.kids.map Re.anul))) := by
  obtain ⟨hset1, hlen, hfk⟩ := Re.fine_spec hs
  by_cases o4 : re.op = 4
  · cases hk : re.kids with
    | nil =>
      by_cases hm : re.mode = 2
      · rw [show usesN re.op re.mode (([] : List Re).map Re.anul) = bitV .or .i64 0 8 by simp [usesN, o4, hm]]
        refine fn_ok Try.func74 rfl Try.ntmps74 Try.results74 rfl 0 4237 (by simp) (by simp) ?_
        simp only [vsA, vsB, vsC, appendWp, Nat.reduceShiftRight, Nat.reduceMod, Nat.reduceLT, Nat.reduceMul, Nat.reduceSub, Int.reduceToNat, Int.reduceNeg, Int.reduceLT, Int.reduceLE, Int.reduceEq, Nat.reduceEqDiff, Nat.reduceAdd, Nat.reduceLeDiff, reduceIte, reduceCtorEq, Nat.reduceBEq, tysA, i64, reEl, Re.cells_eq re, iD, bD, o4, hk, hm, Int.natCast_zero]
        all_goals first | exact ⟨rfl, rfl⟩ | exact ⟨rfl, trivial⟩ | rfl | trivial | (rw [reV_eq]; rfl)
      · rw [show usesN re.op re.mode (([] : List Re).map Re.anul) = 0 by simp [usesN, o4, hm]]
        refine fn_ok Try.func74 rfl Try.ntmps74 Try.results74 rfl 0 4237 (by simp) (by simp) ?_
        simp only [vsA, vsB, vsC, appendWp, Nat.reduceShiftRight, Nat.reduceMod, Nat.reduceLT, Nat.reduceMul, Nat.reduceSub, Int.reduceToNat, Int.reduceNeg, Int.reduceLT, Int.reduceLE, Int.reduceEq, Nat.reduceEqDiff, Nat.reduceAdd, Nat.reduceLeDiff, reduceIte, reduceCtorEq, Nat.reduceBEq, tysA, i64, reEl, Re.cells_eq re, iD, bD, o4, hk, hm, Int.natCast_zero]
        all_goals first | exact ⟨rfl, rfl⟩ | exact ⟨rfl, trivial⟩ | rfl | trivial | (rw [reV_eq]; rfl)
    | cons k l =>
      have hnk := nullable_ok k (hfk k (by rw [hk]; simp))
      have hp : (0 : Int) < (l.length : Int) + 1 := by omega
      by_cases hm : re.mode = 2
      all_goals
        cases hkn : k.anul
        all_goals
          rw [show usesN re.op re.mode ((k :: l).map Re.anul) = (if k.anul = true then bitV .or .i64 (if re.mode = 2 then bitV .or .i64 0 8 else 0) 32 else (if re.mode = 2 then bitV .or .i64 0 8 else 0)) by simp [usesN, o4]]
          simp only [hkn, hm]
          refine fn_ok Try.func74 rfl Try.ntmps74 Try.results74 rfl 0 4237 (by simp) (by simp) ?_
          simp only [vsA, vsB, vsC, appendWp, Nat.reduceShiftRight, Nat.reduceMod, Nat.reduceLT, Nat.reduceMul, Nat.reduceSub, Int.reduceToNat, Int.reduceNeg, Int.reduceLT, Int.reduceLE, Int.reduceEq, Nat.reduceEqDiff, Nat.reduceAdd, Nat.reduceLeDiff, reduceIte, reduceCtorEq, Nat.reduceBEq, tysA, i64, reEl, Re.cells_eq re, iD, bD, o4, hk, hm, Int.natCast_add, Int.natCast_one, hp]
          refine call_pure hnk (by simp [refsV, refsV.go, reV_eq, i64, bV, reEl]) (by simp [refsV, refsV.go, reV_eq, i64, bV, reEl]) ?_
          simp only [vsA, vsB, vsC, appendWp, Nat.reduceShiftRight, Nat.reduceMod, Nat.reduceLT, Nat.reduceMul, Nat.reduceSub, Int.reduceToNat, Int.reduceNeg, Int.reduceLT, Int.reduceLE, Int.reduceEq, Nat.reduceEqDiff, Nat.reduceAdd, Nat.reduceLeDiff, reduceIte, reduceCtorEq, Nat.reduceBEq, tysA, i64, bV, hkn, hm]
          all_goals first | exact ⟨rfl, rfl⟩ | exact ⟨rfl, trivial⟩ | rfl | trivial | (rw [reV_eq]; rfl)
  · by_cases p : re.op = 6 ∨ re.op = 10 ∨ re.op = 7 ∨ re.op = 8 ∨ re.op = 9 ∨ re.op = 11 ∨ re.op = 5
    · rcases p with p | p | p | p | p | p | p
      all_goals
        rw [p]
        refine fn_ok Try.func74 rfl Try.ntmps74 Try.results74 rfl 0 4237 (by simp) (by simp) ?_
        simp only [vsA, vsB, vsC, appendWp, Nat.reduceShiftRight, Nat.reduceMod, Nat.reduceLT, Nat.reduceMul, Nat.reduceSub, Int.reduceToNat, Int.reduceNeg, Int.reduceLT, Int.reduceLE, Int.reduceEq, Nat.reduceEqDiff, Nat.reduceAdd, Nat.reduceLeDiff, reduceIte, reduceCtorEq, Nat.reduceBEq, tysA, i64, reEl, Re.cells_eq re, iD, bD, p]
        all_goals first | exact ⟨rfl, rfl⟩ | exact ⟨rfl, trivial⟩ | rfl | trivial | (rw [reV_eq]; rfl)
    · have p6 : ¬ re.op = 6 := fun h => p (.inl h)
      have p10 : ¬ re.op = 10 := fun h => p (.inr (.inl h))
      have p7 : ¬ re.op = 7 := fun h => p (.inr (.inr (.inl h)))
      have p8 : ¬ re.op = 8 := fun h => p (.inr (.inr (.inr (.inl h))))
      have p9 : ¬ re.op = 9 := fun h => p (.inr (.inr (.inr (.inr (.inl h)))))
      have p11 : ¬ re.op = 11 := fun h => p (.inr (.inr (.inr (.inr (.inr (.inl h))))))
      have p5 : ¬ re.op = 5 := fun h => p (.inr (.inr (.inr (.inr (.inr (.inr h))))))
      rw [show usesN re.op re.mode (re.kids.map Re.anul) = 0 by simp [usesN, p6, p10, p7, p8, p9, p11, p5, o4]]
      refine fn_ok Try.func74 rfl Try.ntmps74 Try.results74 rfl 0 4237 (by simp) (by simp) ?_
      simp only [vsA, vsB, vsC, appendWp, Nat.reduceShiftRight, Nat.reduceMod, Nat.reduceLT, Nat.reduceMul, Nat.reduceSub, Int.reduceToNat, Int.reduceNeg, Int.reduceLT, Int.reduceLE, Int.reduceEq, Nat.reduceEqDiff, Nat.reduceAdd, Nat.reduceLeDiff, reduceIte, reduceCtorEq, Nat.reduceBEq, tysA, i64, reEl, Re.cells_eq re, iD, bD, p6, p10, p7, p8, p9, p11, p5, o4]
      all_goals first | exact ⟨rfl, rfl⟩ | exact ⟨rfl, trivial⟩ | rfl | trivial | (rw [reV_eq]; rfl)

end Go.Proofs.Ytafbdphblilenaa
