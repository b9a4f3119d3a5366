/- THE TYPE TABLE's FACTS, as the V-logic asks them: by my program fill2.py. -/
import Derived.Test.YtafbdphblilenaaRows
import Derived.Test.YtafbdphblilenaaVm
import Derived.KernelRfl
namespace Go.Proofs.Ytafbdphblilenaa
open Go.VL
theorem ty1 : tyI Try.prog 1 = some ⟨1, false, 8, [.nilFunc]⟩ := by kernel_rfl
theorem ty2 : tyI Try.prog 2 = some ⟨1, false, 8, [.int .i64 0]⟩ := by kernel_rfl
theorem un2 : Try.prog.underlying 2 = some (.int .i64) := by kernel_rfl
theorem ty3 : tyI Try.prog 3 = some ⟨1, false, 8, [.int .i64 0]⟩ := by kernel_rfl
theorem un3 : Try.prog.underlying 3 = some (.int .i64) := by kernel_rfl
theorem ty4 : tyI Try.prog 4 = some ⟨1, false, 1, [.bool false]⟩ := by kernel_rfl
theorem un4 : Try.prog.underlying 4 = some .bool := by kernel_rfl
theorem ty5 : tyI Try.prog 5 = some ⟨1, false, 1, [.int .u8 0]⟩ := by kernel_rfl
theorem un5 : Try.prog.underlying 5 = some (.int .u8) := by kernel_rfl
theorem ty7 : tyI Try.prog 7 = some ⟨4, true, 24, [.int .i64 0, .int .i64 0, .bool false, .int .u8 0]⟩ := by kernel_rfl
theorem fOff7_0 : fOff Try.prog 7 0 = some 0 := by kernel_rfl
theorem fOff7_1 : fOff Try.prog 7 1 = some 1 := by kernel_rfl
theorem fOff7_2 : fOff Try.prog 7 2 = some 2 := by kernel_rfl
theorem fOff7_3 : fOff Try.prog 7 3 = some 3 := by kernel_rfl
theorem spl7 : structPl Try.prog 7 = some [(0, 1), (1, 1), (2, 1), (3, 1)] := by kernel_rfl
theorem ty9 : tyI Try.prog 9 = some ⟨1, false, 16, [.string ⟨#[]⟩]⟩ := by kernel_rfl
theorem ty12 : tyI Try.prog 12 = some ⟨1, false, 8, [.int .u64 0]⟩ := by kernel_rfl
theorem un12 : Try.prog.underlying 12 = some (.int .u64) := by kernel_rfl
theorem ty13 : tyI Try.prog 13 = some ⟨2, true, 24, [.string ⟨#[]⟩, .int .u64 0]⟩ := by kernel_rfl
theorem fOff13_0 : fOff Try.prog 13 0 = some 0 := by kernel_rfl
theorem fOff13_1 : fOff Try.prog 13 1 = some 1 := by kernel_rfl
theorem spl13 : structPl Try.prog 13 = some [(0, 1), (1, 1)] := by kernel_rfl
theorem ty15 : tyI Try.prog 15 = some ⟨1, false, 8, [.pointer none]⟩ := by kernel_rfl
theorem un15 : Try.prog.underlying 15 = some (.pointer 132) := by kernel_rfl
theorem ty16 : tyI Try.prog 16 = some ⟨1, false, 8, [.pointer none]⟩ := by kernel_rfl
theorem un16 : Try.prog.underlying 16 = some (.pointer 135) := by kernel_rfl
theorem ty17 : tyI Try.prog 17 = some ⟨1, false, 8, [.pointer none]⟩ := by kernel_rfl
theorem un17 : Try.prog.underlying 17 = some (.pointer 144) := by kernel_rfl
theorem ty18 : tyI Try.prog 18 = some ⟨1, true, 8, [.pointer none]⟩ := by kernel_rfl
theorem fOff18_0 : fOff Try.prog 18 0 = some 0 := by kernel_rfl
theorem spl18 : structPl Try.prog 18 = some [(0, 1)] := by kernel_rfl
theorem ty21 : tyI Try.prog 21 = some ⟨1, false, 4, [.int .i32 0]⟩ := by kernel_rfl
theorem un21 : Try.prog.underlying 21 = some (.int .i32) := by kernel_rfl
theorem ty22 : tyI Try.prog 22 = some ⟨1, false, 24, [.slice none 0 0]⟩ := by kernel_rfl
theorem slE22 : slE Try.prog 22 = some 1 := by kernel_rfl
theorem slTy22 : slTy Try.prog 22 = some (3, ⟨1, false, 8, [.int .i64 0]⟩) := by kernel_rfl
theorem un22 : Try.prog.underlying 22 = some (.slice 3) := by kernel_rfl
theorem ty23 : tyI Try.prog 23 = some ⟨1, false, 24, [.slice none 0 0]⟩ := by kernel_rfl
theorem slE23 : slE Try.prog 23 = some 2 := by kernel_rfl
theorem slTy23 : slTy Try.prog 23 = some (79, ⟨2, true, 16, [.int .i64 0, .int .i64 0]⟩) := by kernel_rfl
theorem un23 : Try.prog.underlying 23 = some (.slice 79) := by kernel_rfl
theorem ty24 : tyI Try.prog 24 = some ⟨1, false, 24, [.slice none 0 0]⟩ := by kernel_rfl
theorem slE24 : slE Try.prog 24 = some 8 := by kernel_rfl
theorem slTy24 : slTy Try.prog 24 = some (26, ⟨8, true, 96, [.int .i64 0, .slice none 0 0, .slice none 0 0, .int .i64 0, .int .i64 0, .int .i64 0, .int .i64 0, .bool false]⟩) := by kernel_rfl
theorem un24 : Try.prog.underlying 24 = some (.slice 26) := by kernel_rfl
theorem ty25 : tyI Try.prog 25 = some ⟨8, true, 96, [.int .i64 0, .slice none 0 0, .slice none 0 0, .int .i64 0, .int .i64 0, .int .i64 0, .int .i64 0, .bool false]⟩ := by kernel_rfl
theorem fOff25_0 : fOff Try.prog 25 0 = some 0 := by kernel_rfl
theorem fOff25_1 : fOff Try.prog 25 1 = some 1 := by kernel_rfl
theorem fOff25_2 : fOff Try.prog 25 2 = some 2 := by kernel_rfl
theorem fOff25_3 : fOff Try.prog 25 3 = some 3 := by kernel_rfl
theorem fOff25_4 : fOff Try.prog 25 4 = some 4 := by kernel_rfl
theorem fOff25_5 : fOff Try.prog 25 5 = some 5 := by kernel_rfl
theorem fOff25_6 : fOff Try.prog 25 6 = some 6 := by kernel_rfl
theorem fOff25_7 : fOff Try.prog 25 7 = some 7 := by kernel_rfl
theorem spl25 : structPl Try.prog 25 = some [(0, 1), (1, 1), (2, 1), (3, 1), (4, 1), (5, 1), (6, 1), (7, 1)] := by kernel_rfl
theorem ty26 : tyI Try.prog 26 = some ⟨8, true, 96, [.int .i64 0, .slice none 0 0, .slice none 0 0, .int .i64 0, .int .i64 0, .int .i64 0, .int .i64 0, .bool false]⟩ := by kernel_rfl
theorem fOff26_0 : fOff Try.prog 26 0 = some 0 := by kernel_rfl
theorem fOff26_1 : fOff Try.prog 26 1 = some 1 := by kernel_rfl
theorem fOff26_2 : fOff Try.prog 26 2 = some 2 := by kernel_rfl
theorem fOff26_3 : fOff Try.prog 26 3 = some 3 := by kernel_rfl
theorem fOff26_4 : fOff Try.prog 26 4 = some 4 := by kernel_rfl
theorem fOff26_5 : fOff Try.prog 26 5 = some 5 := by kernel_rfl
theorem fOff26_6 : fOff Try.prog 26 6 = some 6 := by kernel_rfl
theorem fOff26_7 : fOff Try.prog 26 7 = some 7 := by kernel_rfl
theorem spl26 : structPl Try.prog 26 = some [(0, 1), (1, 1), (2, 1), (3, 1), (4, 1), (5, 1), (6, 1), (7, 1)] := by kernel_rfl
theorem ty27 : tyI Try.prog 27 = some ⟨10, true, 112, [.int .i64 0, .slice none 0 0, .slice none 0 0, .int .i64 0, .int .i64 0, .int .i64 0, .int .i64 0, .bool false, .int .i64 0, .bool false]⟩ := by kernel_rfl
theorem fOff27_0 : fOff Try.prog 27 0 = some 0 := by kernel_rfl
theorem fOff27_1 : fOff Try.prog 27 1 = some 8 := by kernel_rfl
theorem fOff27_2 : fOff Try.prog 27 2 = some 9 := by kernel_rfl
theorem spl27 : structPl Try.prog 27 = some [(0, 8), (8, 1), (9, 1)] := by kernel_rfl
theorem ty28 : tyI Try.prog 28 = some ⟨10, true, 112, [.int .i64 0, .slice none 0 0, .slice none 0 0, .int .i64 0, .int .i64 0, .int .i64 0, .int .i64 0, .bool false, .int .i64 0, .bool false]⟩ := by kernel_rfl
theorem fOff28_0 : fOff Try.prog 28 0 = some 0 := by kernel_rfl
theorem fOff28_1 : fOff Try.prog 28 1 = some 8 := by kernel_rfl
theorem fOff28_2 : fOff Try.prog 28 2 = some 9 := by kernel_rfl
theorem spl28 : structPl Try.prog 28 = some [(0, 8), (8, 1), (9, 1)] := by kernel_rfl
theorem ty29 : tyI Try.prog 29 = some ⟨1, false, 8, [.nilFunc]⟩ := by kernel_rfl
theorem ty30 : tyI Try.prog 30 = some ⟨1, false, 8, [.nilFunc]⟩ := by kernel_rfl
theorem ty32 : tyI Try.prog 32 = some ⟨1, false, 8, [.nilFunc]⟩ := by kernel_rfl
theorem ty33 : tyI Try.prog 33 = some ⟨1, false, 8, [.nilFunc]⟩ := by kernel_rfl
theorem ty34 : tyI Try.prog 34 = some ⟨1, false, 8, [.int .i64 0]⟩ := by kernel_rfl
theorem un34 : Try.prog.underlying 34 = some (.int .i64) := by kernel_rfl
theorem ty36 : tyI Try.prog 36 = some ⟨1, false, 8, [.nilFunc]⟩ := by kernel_rfl
theorem ty37 : tyI Try.prog 37 = some ⟨1, false, 8, [.nilFunc]⟩ := by kernel_rfl
theorem ty38 : tyI Try.prog 38 = some ⟨1, false, 8, [.nilFunc]⟩ := by kernel_rfl
theorem ty39 : tyI Try.prog 39 = some ⟨1, false, 8, [.nilFunc]⟩ := by kernel_rfl
theorem ty40 : tyI Try.prog 40 = some ⟨1, false, 24, [.slice none 0 0]⟩ := by kernel_rfl
theorem slE40 : slE Try.prog 40 = some 1 := by kernel_rfl
theorem slTy40 : slTy Try.prog 40 = some (22, ⟨1, false, 24, [.slice none 0 0]⟩) := by kernel_rfl
theorem un40 : Try.prog.underlying 40 = some (.slice 22) := by kernel_rfl
theorem ty41 : tyI Try.prog 41 = some ⟨1, false, 8, [.nilFunc]⟩ := by kernel_rfl
theorem ty42 : tyI Try.prog 42 = some ⟨1, false, 8, [.nilFunc]⟩ := by kernel_rfl
theorem ty43 : tyI Try.prog 43 = some ⟨1, false, 8, [.nilFunc]⟩ := by kernel_rfl
theorem ty44 : tyI Try.prog 44 = some ⟨1, false, 8, [.nilFunc]⟩ := by kernel_rfl
theorem ty45 : tyI Try.prog 45 = some ⟨1, false, 8, [.nilFunc]⟩ := by kernel_rfl
theorem ty46 : tyI Try.prog 46 = some ⟨1, false, 8, [.nilFunc]⟩ := by kernel_rfl
theorem ty47 : tyI Try.prog 47 = some ⟨1, false, 24, [.slice none 0 0]⟩ := by kernel_rfl
theorem slE47 : slE Try.prog 47 = some 10 := by kernel_rfl
theorem slTy47 : slTy Try.prog 47 = some (28, ⟨10, true, 112, [.int .i64 0, .slice none 0 0, .slice none 0 0, .int .i64 0, .int .i64 0, .int .i64 0, .int .i64 0, .bool false, .int .i64 0, .bool false]⟩) := by kernel_rfl
theorem un47 : Try.prog.underlying 47 = some (.slice 28) := by kernel_rfl
theorem ty48 : tyI Try.prog 48 = some ⟨1, false, 8, [.nilFunc]⟩ := by kernel_rfl
theorem ty49 : tyI Try.prog 49 = some ⟨1, false, 8, [.nilFunc]⟩ := by kernel_rfl
theorem ty50 : tyI Try.prog 50 = some ⟨1, false, 8, [.nilFunc]⟩ := by kernel_rfl
theorem ty51 : tyI Try.prog 51 = some ⟨1, false, 8, [.nilFunc]⟩ := by kernel_rfl
theorem ty52 : tyI Try.prog 52 = some ⟨1, false, 8, [.nilFunc]⟩ := by kernel_rfl
theorem ty53 : tyI Try.prog 53 = some ⟨1, false, 8, [.nilFunc]⟩ := by kernel_rfl
theorem ty54 : tyI Try.prog 54 = some ⟨1, false, 8, [.nilFunc]⟩ := by kernel_rfl
theorem ty55 : tyI Try.prog 55 = some ⟨1, false, 8, [.nilFunc]⟩ := by kernel_rfl
theorem ty56 : tyI Try.prog 56 = some ⟨1, false, 8, [.nilFunc]⟩ := by kernel_rfl
theorem ty57 : tyI Try.prog 57 = some ⟨1, false, 8, [.nilFunc]⟩ := by kernel_rfl
theorem ty58 : tyI Try.prog 58 = some ⟨1, false, 8, [.nilFunc]⟩ := by kernel_rfl
theorem ty59 : tyI Try.prog 59 = some ⟨1, false, 24, [.slice none 0 0]⟩ := by kernel_rfl
theorem slE59 : slE Try.prog 59 = some 1 := by kernel_rfl
theorem slTy59 : slTy Try.prog 59 = some (5, ⟨1, false, 1, [.int .u8 0]⟩) := by kernel_rfl
theorem un59 : Try.prog.underlying 59 = some (.slice 5) := by kernel_rfl
theorem ty60 : tyI Try.prog 60 = some ⟨1, false, 8, [.nilFunc]⟩ := by kernel_rfl
theorem ty62 : tyI Try.prog 62 = some ⟨1, false, 8, [.nilFunc]⟩ := by kernel_rfl
theorem ty63 : tyI Try.prog 63 = some ⟨1, false, 8, [.pointer none]⟩ := by kernel_rfl
theorem un63 : Try.prog.underlying 63 = some (.pointer 103) := by kernel_rfl
theorem ty64 : tyI Try.prog 64 = some ⟨1, false, 8, [.nilFunc]⟩ := by kernel_rfl
theorem ty65 : tyI Try.prog 65 = some ⟨1, false, 8, [.nilFunc]⟩ := by kernel_rfl
theorem ty66 : tyI Try.prog 66 = some ⟨1, false, 8, [.nilFunc]⟩ := by kernel_rfl
theorem ty67 : tyI Try.prog 67 = some ⟨1, false, 24, [.slice none 0 0]⟩ := by kernel_rfl
theorem slE67 : slE Try.prog 67 = some 1 := by kernel_rfl
theorem slTy67 : slTy Try.prog 67 = some (59, ⟨1, false, 24, [.slice none 0 0]⟩) := by kernel_rfl
theorem un67 : Try.prog.underlying 67 = some (.slice 59) := by kernel_rfl
theorem ty68 : tyI Try.prog 68 = some ⟨1, false, 8, [.nilFunc]⟩ := by kernel_rfl
theorem ty69 : tyI Try.prog 69 = some ⟨1, false, 8, [.pointer none]⟩ := by kernel_rfl
theorem un69 : Try.prog.underlying 69 = some (.pointer 71) := by kernel_rfl
theorem ty70 : tyI Try.prog 70 = some ⟨5, true, 56, [.slice none 0 0, .int .i64 0, .int .i64 0, .int .i64 0, .int .i64 0]⟩ := by kernel_rfl
theorem fOff70_0 : fOff Try.prog 70 0 = some 0 := by kernel_rfl
theorem fOff70_1 : fOff Try.prog 70 1 = some 1 := by kernel_rfl
theorem fOff70_2 : fOff Try.prog 70 2 = some 2 := by kernel_rfl
theorem fOff70_3 : fOff Try.prog 70 3 = some 3 := by kernel_rfl
theorem fOff70_4 : fOff Try.prog 70 4 = some 4 := by kernel_rfl
theorem spl70 : structPl Try.prog 70 = some [(0, 1), (1, 1), (2, 1), (3, 1), (4, 1)] := by kernel_rfl
theorem ty71 : tyI Try.prog 71 = some ⟨5, true, 56, [.slice none 0 0, .int .i64 0, .int .i64 0, .int .i64 0, .int .i64 0]⟩ := by kernel_rfl
theorem fOff71_0 : fOff Try.prog 71 0 = some 0 := by kernel_rfl
theorem fOff71_1 : fOff Try.prog 71 1 = some 1 := by kernel_rfl
theorem fOff71_2 : fOff Try.prog 71 2 = some 2 := by kernel_rfl
theorem fOff71_3 : fOff Try.prog 71 3 = some 3 := by kernel_rfl
theorem fOff71_4 : fOff Try.prog 71 4 = some 4 := by kernel_rfl
theorem spl71 : structPl Try.prog 71 = some [(0, 1), (1, 1), (2, 1), (3, 1), (4, 1)] := by kernel_rfl
theorem ty72 : tyI Try.prog 72 = some ⟨1, false, 8, [.nilFunc]⟩ := by kernel_rfl
theorem ty73 : tyI Try.prog 73 = some ⟨1, false, 8, [.nilFunc]⟩ := by kernel_rfl
theorem ty74 : tyI Try.prog 74 = some ⟨1, false, 8, [.pointer none]⟩ := by kernel_rfl
theorem un74 : Try.prog.underlying 74 = some (.pointer 26) := by kernel_rfl
theorem ty75 : tyI Try.prog 75 = some ⟨1, false, 8, [.nilFunc]⟩ := by kernel_rfl
theorem ty76 : tyI Try.prog 76 = some ⟨1, false, 8, [.nilFunc]⟩ := by kernel_rfl
theorem ty77 : tyI Try.prog 77 = some ⟨1, false, 8, [.nilFunc]⟩ := by kernel_rfl
theorem ty78 : tyI Try.prog 78 = some ⟨2, true, 16, [.int .i64 0, .int .i64 0]⟩ := by kernel_rfl
theorem fOff78_0 : fOff Try.prog 78 0 = some 0 := by kernel_rfl
theorem fOff78_1 : fOff Try.prog 78 1 = some 1 := by kernel_rfl
theorem spl78 : structPl Try.prog 78 = some [(0, 1), (1, 1)] := by kernel_rfl
theorem ty79 : tyI Try.prog 79 = some ⟨2, true, 16, [.int .i64 0, .int .i64 0]⟩ := by kernel_rfl
theorem fOff79_0 : fOff Try.prog 79 0 = some 0 := by kernel_rfl
theorem fOff79_1 : fOff Try.prog 79 1 = some 1 := by kernel_rfl
theorem spl79 : structPl Try.prog 79 = some [(0, 1), (1, 1)] := by kernel_rfl
theorem ty80 : tyI Try.prog 80 = some ⟨1, false, 8, [.nilFunc]⟩ := by kernel_rfl
theorem ty81 : tyI Try.prog 81 = some ⟨1, false, 8, [.nilFunc]⟩ := by kernel_rfl
theorem ty82 : tyI Try.prog 82 = some ⟨1, false, 8, [.nilFunc]⟩ := by kernel_rfl
theorem ty83 : tyI Try.prog 83 = some ⟨1, false, 8, [.nilFunc]⟩ := by kernel_rfl
theorem ty84 : tyI Try.prog 84 = some ⟨1, false, 8, [.nilFunc]⟩ := by kernel_rfl
theorem ty85 : tyI Try.prog 85 = some ⟨1, false, 8, [.nilFunc]⟩ := by kernel_rfl
theorem ty86 : tyI Try.prog 86 = some ⟨1, false, 8, [.map none]⟩ := by kernel_rfl
theorem ty87 : tyI Try.prog 87 = some ⟨1, false, 8, [.nilFunc]⟩ := by kernel_rfl
theorem ty88 : tyI Try.prog 88 = some ⟨1, false, 8, [.nilFunc]⟩ := by kernel_rfl
theorem ty89 : tyI Try.prog 89 = some ⟨1, false, 8, [.nilFunc]⟩ := by kernel_rfl
theorem ty90 : tyI Try.prog 90 = some ⟨1, false, 8, [.nilFunc]⟩ := by kernel_rfl
theorem ty91 : tyI Try.prog 91 = some ⟨1, true, 24, [.slice none 0 0]⟩ := by kernel_rfl
theorem fOff91_0 : fOff Try.prog 91 0 = some 0 := by kernel_rfl
theorem spl91 : structPl Try.prog 91 = some [(0, 1)] := by kernel_rfl
theorem ty92 : tyI Try.prog 92 = some ⟨1, true, 24, [.slice none 0 0]⟩ := by kernel_rfl
theorem fOff92_0 : fOff Try.prog 92 0 = some 0 := by kernel_rfl
theorem spl92 : structPl Try.prog 92 = some [(0, 1)] := by kernel_rfl
theorem ty93 : tyI Try.prog 93 = some ⟨1, false, 8, [.nilFunc]⟩ := by kernel_rfl
theorem ty94 : tyI Try.prog 94 = some ⟨1, false, 8, [.nilFunc]⟩ := by kernel_rfl
theorem ty95 : tyI Try.prog 95 = some ⟨1, false, 8, [.nilFunc]⟩ := by kernel_rfl
theorem ty96 : tyI Try.prog 96 = some ⟨1, false, 8, [.nilFunc]⟩ := by kernel_rfl
theorem ty97 : tyI Try.prog 97 = some ⟨1, false, 8, [.nilFunc]⟩ := by kernel_rfl
theorem ty99 : tyI Try.prog 99 = some ⟨1, false, 8, [.nilFunc]⟩ := by kernel_rfl
theorem ty101 : tyI Try.prog 101 = some ⟨1, false, 8, [.nilFunc]⟩ := by kernel_rfl
theorem ty102 : tyI Try.prog 102 = some ⟨3, true, 40, [.slice none 0 0, .int .i64 0, .int .i64 0]⟩ := by kernel_rfl
theorem fOff102_0 : fOff Try.prog 102 0 = some 0 := by kernel_rfl
theorem fOff102_1 : fOff Try.prog 102 1 = some 1 := by kernel_rfl
theorem fOff102_2 : fOff Try.prog 102 2 = some 2 := by kernel_rfl
theorem spl102 : structPl Try.prog 102 = some [(0, 1), (1, 1), (2, 1)] := by kernel_rfl
theorem ty103 : tyI Try.prog 103 = some ⟨3, true, 40, [.slice none 0 0, .int .i64 0, .int .i64 0]⟩ := by kernel_rfl
theorem fOff103_0 : fOff Try.prog 103 0 = some 0 := by kernel_rfl
theorem fOff103_1 : fOff Try.prog 103 1 = some 1 := by kernel_rfl
theorem fOff103_2 : fOff Try.prog 103 2 = some 2 := by kernel_rfl
theorem spl103 : structPl Try.prog 103 = some [(0, 1), (1, 1), (2, 1)] := by kernel_rfl
theorem ty104 : tyI Try.prog 104 = some ⟨1, false, 8, [.nilFunc]⟩ := by kernel_rfl
theorem ty105 : tyI Try.prog 105 = some ⟨1, false, 8, [.nilFunc]⟩ := by kernel_rfl
theorem ty106 : tyI Try.prog 106 = some ⟨1, false, 8, [.nilFunc]⟩ := by kernel_rfl
theorem ty107 : tyI Try.prog 107 = some ⟨1, false, 8, [.int .u64 0]⟩ := by kernel_rfl
theorem un107 : Try.prog.underlying 107 = some (.int .u64) := by kernel_rfl
theorem ty108 : tyI Try.prog 108 = some ⟨1, false, 8, [.nilFunc]⟩ := by kernel_rfl
theorem ty109 : tyI Try.prog 109 = some ⟨1, false, 8, [.int .u64 0]⟩ := by kernel_rfl
theorem un109 : Try.prog.underlying 109 = some (.int .u64) := by kernel_rfl
theorem ty110 : tyI Try.prog 110 = some ⟨1, false, 8, [.nilFunc]⟩ := by kernel_rfl
theorem ty111 : tyI Try.prog 111 = some ⟨1, false, 8, [.nilFunc]⟩ := by kernel_rfl
theorem ty112 : tyI Try.prog 112 = some ⟨1, false, 8, [.nilFunc]⟩ := by kernel_rfl
theorem ty113 : tyI Try.prog 113 = some ⟨1, false, 8, [.nilFunc]⟩ := by kernel_rfl
theorem ty114 : tyI Try.prog 114 = some ⟨1, false, 8, [.nilFunc]⟩ := by kernel_rfl
theorem ty115 : tyI Try.prog 115 = some ⟨1, false, 8, [.nilFunc]⟩ := by kernel_rfl
theorem ty116 : tyI Try.prog 116 = some ⟨2, true, 16, [.int .i64 0, .int .i64 0]⟩ := by kernel_rfl
theorem slE116 : slE Try.prog 116 = none := by kernel_rfl
theorem arE116 : arE Try.prog 116 = some (2, 1) := by kernel_rfl
theorem spl116 : structPl Try.prog 116 = none := by kernel_rfl
theorem ty117 : tyI Try.prog 117 = some ⟨1, false, 8, [.nilFunc]⟩ := by kernel_rfl
theorem ty118 : tyI Try.prog 118 = some ⟨1, false, 8, [.pointer none]⟩ := by kernel_rfl
theorem un118 : Try.prog.underlying 118 = some (.pointer 92) := by kernel_rfl
theorem ty119 : tyI Try.prog 119 = some ⟨1, false, 8, [.nilFunc]⟩ := by kernel_rfl
theorem ty120 : tyI Try.prog 120 = some ⟨1, false, 8, [.nilFunc]⟩ := by kernel_rfl
theorem ty121 : tyI Try.prog 121 = some ⟨1, false, 8, [.nilFunc]⟩ := by kernel_rfl
theorem ty122 : tyI Try.prog 122 = some ⟨1, false, 8, [.nilFunc]⟩ := by kernel_rfl
theorem ty123 : tyI Try.prog 123 = some ⟨1, false, 8, [.nilFunc]⟩ := by kernel_rfl
theorem ty124 : tyI Try.prog 124 = some ⟨1, false, 8, [.nilFunc]⟩ := by kernel_rfl
theorem ty125 : tyI Try.prog 125 = some ⟨1, false, 8, [.nilFunc]⟩ := by kernel_rfl
theorem ty126 : tyI Try.prog 126 = some ⟨1, false, 24, [.slice none 0 0]⟩ := by kernel_rfl
theorem slE126 : slE Try.prog 126 = some 1 := by kernel_rfl
theorem slTy126 : slTy Try.prog 126 = some (23, ⟨1, false, 24, [.slice none 0 0]⟩) := by kernel_rfl
theorem un126 : Try.prog.underlying 126 = some (.slice 23) := by kernel_rfl
theorem ty127 : tyI Try.prog 127 = some ⟨1, false, 8, [.nilFunc]⟩ := by kernel_rfl
theorem ty128 : tyI Try.prog 128 = some ⟨1, false, 24, [.slice none 0 0]⟩ := by kernel_rfl
theorem slE128 : slE Try.prog 128 = some 2 := by kernel_rfl
theorem slTy128 : slTy Try.prog 128 = some (116, ⟨2, true, 16, [.int .i64 0, .int .i64 0]⟩) := by kernel_rfl
theorem un128 : Try.prog.underlying 128 = some (.slice 116) := by kernel_rfl
theorem ty129 : tyI Try.prog 129 = some ⟨1, false, 8, [.nilFunc]⟩ := by kernel_rfl
theorem ty130 : tyI Try.prog 130 = some ⟨1, false, 8, [.nilFunc]⟩ := by kernel_rfl
theorem ty131 : tyI Try.prog 131 = some ⟨4, true, 40, [.pointer none, .pointer none, .pointer none, .string ⟨#[]⟩]⟩ := by kernel_rfl
theorem fOff131_0 : fOff Try.prog 131 0 = some 0 := by kernel_rfl
theorem fOff131_1 : fOff Try.prog 131 1 = some 1 := by kernel_rfl
theorem fOff131_2 : fOff Try.prog 131 2 = some 2 := by kernel_rfl
theorem fOff131_3 : fOff Try.prog 131 3 = some 3 := by kernel_rfl
theorem spl131 : structPl Try.prog 131 = some [(0, 1), (1, 1), (2, 1), (3, 1)] := by kernel_rfl
theorem ty133 : tyI Try.prog 133 = some ⟨0, true, 0, []⟩ := by kernel_rfl
theorem slE133 : slE Try.prog 133 = none := by kernel_rfl
theorem arE133 : arE Try.prog 133 = some (0, 1) := by kernel_rfl
theorem spl133 : structPl Try.prog 133 = none := by kernel_rfl
theorem ty134 : tyI Try.prog 134 = some ⟨0, true, 0, []⟩ := by kernel_rfl
theorem spl134 : structPl Try.prog 134 = some [(0, 0)] := by kernel_rfl
theorem ty136 : tyI Try.prog 136 = some ⟨1, false, 4, [.int .u32 0]⟩ := by kernel_rfl
theorem un136 : Try.prog.underlying 136 = some (.int .u32) := by kernel_rfl
theorem ty139 : tyI Try.prog 139 = some ⟨1, false, 8, [.nilFunc]⟩ := by kernel_rfl
theorem ty140 : tyI Try.prog 140 = some ⟨1, false, 8, [.pointer none]⟩ := by kernel_rfl
theorem un140 : Try.prog.underlying 140 = some (.pointer 5) := by kernel_rfl
theorem ty143 : tyI Try.prog 143 = some ⟨11, true, 48, [.int .u64 0, .int .u64 0, .int .u32 0, .int .u8 0, .int .u8 0, .int .u8 0, .int .u8 0, .nilFunc, .pointer none, .int .i32 0, .int .i32 0]⟩ := by kernel_rfl
theorem fOff143_0 : fOff Try.prog 143 0 = some 0 := by kernel_rfl
theorem fOff143_1 : fOff Try.prog 143 1 = some 1 := by kernel_rfl
theorem fOff143_2 : fOff Try.prog 143 2 = some 2 := by kernel_rfl
theorem fOff143_3 : fOff Try.prog 143 3 = some 3 := by kernel_rfl
theorem fOff143_4 : fOff Try.prog 143 4 = some 4 := by kernel_rfl
theorem fOff143_5 : fOff Try.prog 143 5 = some 5 := by kernel_rfl
theorem fOff143_6 : fOff Try.prog 143 6 = some 6 := by kernel_rfl
theorem fOff143_7 : fOff Try.prog 143 7 = some 7 := by kernel_rfl
theorem fOff143_8 : fOff Try.prog 143 8 = some 8 := by kernel_rfl
theorem fOff143_9 : fOff Try.prog 143 9 = some 9 := by kernel_rfl
theorem fOff143_10 : fOff Try.prog 143 10 = some 10 := by kernel_rfl
theorem spl143 : structPl Try.prog 143 = some [(0, 1), (1, 1), (2, 1), (3, 1), (4, 1), (5, 1), (6, 1), (7, 1), (8, 1), (9, 1), (10, 1)] := by kernel_rfl
theorem tys0 : type_of% (
  And.intro @ty1 <|
  And.intro @ty2 <|
  And.intro @un2 <|
  And.intro @ty3 <|
  And.intro @un3 <|
  And.intro @ty4 <|
  And.intro @un4 <|
  And.intro @ty5 <|
  And.intro @un5 <|
  And.intro @ty7 <|
  And.intro @fOff7_0 <|
  And.intro @fOff7_1 <|
  And.intro @fOff7_2 <|
  And.intro @fOff7_3 <|
  And.intro @spl7 <|
  And.intro @ty9 <|
  And.intro @ty12 <|
  And.intro @un12 <|
  And.intro @ty13 <|
  And.intro @fOff13_0 <|
  And.intro @fOff13_1 <|
  And.intro @spl13 <|
  And.intro @ty15 <|
  And.intro @un15 <|
  And.intro @ty16 <|
  And.intro @un16 <|
  And.intro @ty17 <|
  And.intro @un17 <|
  And.intro @ty18 <|
  And.intro @fOff18_0 <|
  And.intro @spl18 <|
  And.intro @ty21 <|
  And.intro @un21 <|
  And.intro @ty22 <|
  And.intro @slE22 <|
  And.intro @slTy22 <|
  And.intro @un22 <|
  And.intro @ty23 <|
  And.intro @slE23 <|
  @slTy23) :=
  And.intro @ty1 <|
  And.intro @ty2 <|
  And.intro @un2 <|
  And.intro @ty3 <|
  And.intro @un3 <|
  And.intro @ty4 <|
  And.intro @un4 <|
  And.intro @ty5 <|
  And.intro @un5 <|
  And.intro @ty7 <|
  And.intro @fOff7_0 <|
  And.intro @fOff7_1 <|
  And.intro @fOff7_2 <|
  And.intro @fOff7_3 <|
  And.intro @spl7 <|
  And.intro @ty9 <|
  And.intro @ty12 <|
  And.intro @un12 <|
  And.intro @ty13 <|
  And.intro @fOff13_0 <|
  And.intro @fOff13_1 <|
  And.intro @spl13 <|
  And.intro @ty15 <|
  And.intro @un15 <|
  And.intro @ty16 <|
  And.intro @un16 <|
  And.intro @ty17 <|
  And.intro @un17 <|
  And.intro @ty18 <|
  And.intro @fOff18_0 <|
  And.intro @spl18 <|
  And.intro @ty21 <|
  And.intro @un21 <|
  And.intro @ty22 <|
  And.intro @slE22 <|
  And.intro @slTy22 <|
  And.intro @un22 <|
  And.intro @ty23 <|
  And.intro @slE23 <|
  @slTy23
theorem tys1 : type_of% (
  And.intro @un23 <|
  And.intro @ty24 <|
  And.intro @slE24 <|
  And.intro @slTy24 <|
  And.intro @un24 <|
  And.intro @ty25 <|
  And.intro @fOff25_0 <|
  And.intro @fOff25_1 <|
  And.intro @fOff25_2 <|
  And.intro @fOff25_3 <|
  And.intro @fOff25_4 <|
  And.intro @fOff25_5 <|
  And.intro @fOff25_6 <|
  And.intro @fOff25_7 <|
  And.intro @spl25 <|
  And.intro @ty26 <|
  And.intro @fOff26_0 <|
  And.intro @fOff26_1 <|
  And.intro @fOff26_2 <|
  And.intro @fOff26_3 <|
  And.intro @fOff26_4 <|
  And.intro @fOff26_5 <|
  And.intro @fOff26_6 <|
  And.intro @fOff26_7 <|
  And.intro @spl26 <|
  And.intro @ty27 <|
  And.intro @fOff27_0 <|
  And.intro @fOff27_1 <|
  And.intro @fOff27_2 <|
  And.intro @spl27 <|
  And.intro @ty28 <|
  And.intro @fOff28_0 <|
  And.intro @fOff28_1 <|
  And.intro @fOff28_2 <|
  And.intro @spl28 <|
  And.intro @ty29 <|
  And.intro @ty30 <|
  And.intro @ty32 <|
  And.intro @ty33 <|
  @ty34) :=
  And.intro @un23 <|
  And.intro @ty24 <|
  And.intro @slE24 <|
  And.intro @slTy24 <|
  And.intro @un24 <|
  And.intro @ty25 <|
  And.intro @fOff25_0 <|
  And.intro @fOff25_1 <|
  And.intro @fOff25_2 <|
  And.intro @fOff25_3 <|
  And.intro @fOff25_4 <|
  And.intro @fOff25_5 <|
  And.intro @fOff25_6 <|
  And.intro @fOff25_7 <|
  And.intro @spl25 <|
  And.intro @ty26 <|
  And.intro @fOff26_0 <|
  And.intro @fOff26_1 <|
  And.intro @fOff26_2 <|
  And.intro @fOff26_3 <|
  And.intro @fOff26_4 <|
  And.intro @fOff26_5 <|
  And.intro @fOff26_6 <|
  And.intro @fOff26_7 <|
  And.intro @spl26 <|
  And.intro @ty27 <|
  And.intro @fOff27_0 <|
  And.intro @fOff27_1 <|
  And.intro @fOff27_2 <|
  And.intro @spl27 <|
  And.intro @ty28 <|
  And.intro @fOff28_0 <|
  And.intro @fOff28_1 <|
  And.intro @fOff28_2 <|
  And.intro @spl28 <|
  And.intro @ty29 <|
  And.intro @ty30 <|
  And.intro @ty32 <|
  And.intro @ty33 <|
  @ty34
theorem tys2 : type_of% (
  And.intro @un34 <|
  And.intro @ty36 <|
  And.intro @ty37 <|
  And.intro @ty38 <|
  And.intro @ty39 <|
  And.intro @ty40 <|
  And.intro @slE40 <|
  And.intro @slTy40 <|
  And.intro @un40 <|
  And.intro @ty41 <|
  And.intro @ty42 <|
  And.intro @ty43 <|
  And.intro @ty44 <|
  And.intro @ty45 <|
  And.intro @ty46 <|
  And.intro @ty47 <|
  And.intro @slE47 <|
  And.intro @slTy47 <|
  And.intro @un47 <|
  And.intro @ty48 <|
  And.intro @ty49 <|
  And.intro @ty50 <|
  And.intro @ty51 <|
  And.intro @ty52 <|
  And.intro @ty53 <|
  And.intro @ty54 <|
  And.intro @ty55 <|
  And.intro @ty56 <|
  And.intro @ty57 <|
  And.intro @ty58 <|
  And.intro @ty59 <|
  And.intro @slE59 <|
  And.intro @slTy59 <|
  And.intro @un59 <|
  And.intro @ty60 <|
  And.intro @ty62 <|
  And.intro @ty63 <|
  And.intro @un63 <|
  And.intro @ty64 <|
  @ty65) :=
  And.intro @un34 <|
  And.intro @ty36 <|
  And.intro @ty37 <|
  And.intro @ty38 <|
  And.intro @ty39 <|
  And.intro @ty40 <|
  And.intro @slE40 <|
  And.intro @slTy40 <|
  And.intro @un40 <|
  And.intro @ty41 <|
  And.intro @ty42 <|
  And.intro @ty43 <|
  And.intro @ty44 <|
  And.intro @ty45 <|
  And.intro @ty46 <|
  And.intro @ty47 <|
  And.intro @slE47 <|
  And.intro @slTy47 <|
  And.intro @un47 <|
  And.intro @ty48 <|
  And.intro @ty49 <|
  And.intro @ty50 <|
  And.intro @ty51 <|
  And.intro @ty52 <|
  And.intro @ty53 <|
  And.intro @ty54 <|
  And.intro @ty55 <|
  And.intro @ty56 <|
  And.intro @ty57 <|
  And.intro @ty58 <|
  And.intro @ty59 <|
  And.intro @slE59 <|
  And.intro @slTy59 <|
  And.intro @un59 <|
  And.intro @ty60 <|
  And.intro @ty62 <|
  And.intro @ty63 <|
  And.intro @un63 <|
  And.intro @ty64 <|
  @ty65
theorem tys3 : type_of% (
  And.intro @ty66 <|
  And.intro @ty67 <|
  And.intro @slE67 <|
  And.intro @slTy67 <|
  And.intro @un67 <|
  And.intro @ty68 <|
  And.intro @ty69 <|
  And.intro @un69 <|
  And.intro @ty70 <|
  And.intro @fOff70_0 <|
  And.intro @fOff70_1 <|
  And.intro @fOff70_2 <|
  And.intro @fOff70_3 <|
  And.intro @fOff70_4 <|
  And.intro @spl70 <|
  And.intro @ty71 <|
  And.intro @fOff71_0 <|
  And.intro @fOff71_1 <|
  And.intro @fOff71_2 <|
  And.intro @fOff71_3 <|
  And.intro @fOff71_4 <|
  And.intro @spl71 <|
  And.intro @ty72 <|
  And.intro @ty73 <|
  And.intro @ty74 <|
  And.intro @un74 <|
  And.intro @ty75 <|
  And.intro @ty76 <|
  And.intro @ty77 <|
  And.intro @ty78 <|
  And.intro @fOff78_0 <|
  And.intro @fOff78_1 <|
  And.intro @spl78 <|
  And.intro @ty79 <|
  And.intro @fOff79_0 <|
  And.intro @fOff79_1 <|
  And.intro @spl79 <|
  And.intro @ty80 <|
  And.intro @ty81 <|
  @ty82) :=
  And.intro @ty66 <|
  And.intro @ty67 <|
  And.intro @slE67 <|
  And.intro @slTy67 <|
  And.intro @un67 <|
  And.intro @ty68 <|
  And.intro @ty69 <|
  And.intro @un69 <|
  And.intro @ty70 <|
  And.intro @fOff70_0 <|
  And.intro @fOff70_1 <|
  And.intro @fOff70_2 <|
  And.intro @fOff70_3 <|
  And.intro @fOff70_4 <|
  And.intro @spl70 <|
  And.intro @ty71 <|
  And.intro @fOff71_0 <|
  And.intro @fOff71_1 <|
  And.intro @fOff71_2 <|
  And.intro @fOff71_3 <|
  And.intro @fOff71_4 <|
  And.intro @spl71 <|
  And.intro @ty72 <|
  And.intro @ty73 <|
  And.intro @ty74 <|
  And.intro @un74 <|
  And.intro @ty75 <|
  And.intro @ty76 <|
  And.intro @ty77 <|
  And.intro @ty78 <|
  And.intro @fOff78_0 <|
  And.intro @fOff78_1 <|
  And.intro @spl78 <|
  And.intro @ty79 <|
  And.intro @fOff79_0 <|
  And.intro @fOff79_1 <|
  And.intro @spl79 <|
  And.intro @ty80 <|
  And.intro @ty81 <|
  @ty82
theorem tys4 : type_of% (
  And.intro @ty83 <|
  And.intro @ty84 <|
  And.intro @ty85 <|
  And.intro @ty86 <|
  And.intro @ty87 <|
  And.intro @ty88 <|
  And.intro @ty89 <|
  And.intro @ty90 <|
  And.intro @ty91 <|
  And.intro @fOff91_0 <|
  And.intro @spl91 <|
  And.intro @ty92 <|
  And.intro @fOff92_0 <|
  And.intro @spl92 <|
  And.intro @ty93 <|
  And.intro @ty94 <|
  And.intro @ty95 <|
  And.intro @ty96 <|
  And.intro @ty97 <|
  And.intro @ty99 <|
  And.intro @ty101 <|
  And.intro @ty102 <|
  And.intro @fOff102_0 <|
  And.intro @fOff102_1 <|
  And.intro @fOff102_2 <|
  And.intro @spl102 <|
  And.intro @ty103 <|
  And.intro @fOff103_0 <|
  And.intro @fOff103_1 <|
  And.intro @fOff103_2 <|
  And.intro @spl103 <|
  And.intro @ty104 <|
  And.intro @ty105 <|
  And.intro @ty106 <|
  And.intro @ty107 <|
  And.intro @un107 <|
  And.intro @ty108 <|
  And.intro @ty109 <|
  And.intro @un109 <|
  @ty110) :=
  And.intro @ty83 <|
  And.intro @ty84 <|
  And.intro @ty85 <|
  And.intro @ty86 <|
  And.intro @ty87 <|
  And.intro @ty88 <|
  And.intro @ty89 <|
  And.intro @ty90 <|
  And.intro @ty91 <|
  And.intro @fOff91_0 <|
  And.intro @spl91 <|
  And.intro @ty92 <|
  And.intro @fOff92_0 <|
  And.intro @spl92 <|
  And.intro @ty93 <|
  And.intro @ty94 <|
  And.intro @ty95 <|
  And.intro @ty96 <|
  And.intro @ty97 <|
  And.intro @ty99 <|
  And.intro @ty101 <|
  And.intro @ty102 <|
  And.intro @fOff102_0 <|
  And.intro @fOff102_1 <|
  And.intro @fOff102_2 <|
  And.intro @spl102 <|
  And.intro @ty103 <|
  And.intro @fOff103_0 <|
  And.intro @fOff103_1 <|
  And.intro @fOff103_2 <|
  And.intro @spl103 <|
  And.intro @ty104 <|
  And.intro @ty105 <|
  And.intro @ty106 <|
  And.intro @ty107 <|
  And.intro @un107 <|
  And.intro @ty108 <|
  And.intro @ty109 <|
  And.intro @un109 <|
  @ty110
theorem tys5 : type_of% (
  And.intro @ty111 <|
  And.intro @ty112 <|
  And.intro @ty113 <|
  And.intro @ty114 <|
  And.intro @ty115 <|
  And.intro @ty116 <|
  And.intro @slE116 <|
  And.intro @arE116 <|
  And.intro @spl116 <|
  And.intro @ty117 <|
  And.intro @ty118 <|
  And.intro @un118 <|
  And.intro @ty119 <|
  And.intro @ty120 <|
  And.intro @ty121 <|
  And.intro @ty122 <|
  And.intro @ty123 <|
  And.intro @ty124 <|
  And.intro @ty125 <|
  And.intro @ty126 <|
  And.intro @slE126 <|
  And.intro @slTy126 <|
  And.intro @un126 <|
  And.intro @ty127 <|
  And.intro @ty128 <|
  And.intro @slE128 <|
  And.intro @slTy128 <|
  And.intro @un128 <|
  And.intro @ty129 <|
  And.intro @ty130 <|
  And.intro @ty131 <|
  And.intro @fOff131_0 <|
  And.intro @fOff131_1 <|
  And.intro @fOff131_2 <|
  And.intro @fOff131_3 <|
  And.intro @spl131 <|
  And.intro @ty133 <|
  And.intro @slE133 <|
  And.intro @arE133 <|
  @spl133) :=
  And.intro @ty111 <|
  And.intro @ty112 <|
  And.intro @ty113 <|
  And.intro @ty114 <|
  And.intro @ty115 <|
  And.intro @ty116 <|
  And.intro @slE116 <|
  And.intro @arE116 <|
  And.intro @spl116 <|
  And.intro @ty117 <|
  And.intro @ty118 <|
  And.intro @un118 <|
  And.intro @ty119 <|
  And.intro @ty120 <|
  And.intro @ty121 <|
  And.intro @ty122 <|
  And.intro @ty123 <|
  And.intro @ty124 <|
  And.intro @ty125 <|
  And.intro @ty126 <|
  And.intro @slE126 <|
  And.intro @slTy126 <|
  And.intro @un126 <|
  And.intro @ty127 <|
  And.intro @ty128 <|
  And.intro @slE128 <|
  And.intro @slTy128 <|
  And.intro @un128 <|
  And.intro @ty129 <|
  And.intro @ty130 <|
  And.intro @ty131 <|
  And.intro @fOff131_0 <|
  And.intro @fOff131_1 <|
  And.intro @fOff131_2 <|
  And.intro @fOff131_3 <|
  And.intro @spl131 <|
  And.intro @ty133 <|
  And.intro @slE133 <|
  And.intro @arE133 <|
  @spl133
theorem tys6 : type_of% (
  And.intro @ty134 <|
  And.intro @spl134 <|
  And.intro @ty136 <|
  And.intro @un136 <|
  And.intro @ty139 <|
  And.intro @ty140 <|
  And.intro @un140 <|
  And.intro @ty143 <|
  And.intro @fOff143_0 <|
  And.intro @fOff143_1 <|
  And.intro @fOff143_2 <|
  And.intro @fOff143_3 <|
  And.intro @fOff143_4 <|
  And.intro @fOff143_5 <|
  And.intro @fOff143_6 <|
  And.intro @fOff143_7 <|
  And.intro @fOff143_8 <|
  And.intro @fOff143_9 <|
  And.intro @fOff143_10 <|
  @spl143) :=
  And.intro @ty134 <|
  And.intro @spl134 <|
  And.intro @ty136 <|
  And.intro @un136 <|
  And.intro @ty139 <|
  And.intro @ty140 <|
  And.intro @un140 <|
  And.intro @ty143 <|
  And.intro @fOff143_0 <|
  And.intro @fOff143_1 <|
  And.intro @fOff143_2 <|
  And.intro @fOff143_3 <|
  And.intro @fOff143_4 <|
  And.intro @fOff143_5 <|
  And.intro @fOff143_6 <|
  And.intro @fOff143_7 <|
  And.intro @fOff143_8 <|
  And.intro @fOff143_9 <|
  And.intro @fOff143_10 <|
  @spl143
end Go.Proofs.Ytafbdphblilenaa
