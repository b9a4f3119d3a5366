/- A part of the proof (Ty Da F2 F3 F4 F5 F13 F15 F16 Db F22 F30 F31). -/
import Derived.Test.YtffeafbdcakfbaaRows
import Derived.KernelRfl
import Derived.Test.YtffeafbdcakfbaaAQ1
import Derived.Test.YtffeafbdcakfbaaAQ2
set_option linter.unusedSimpArgs false
set_option linter.unusedVariables false
set_option maxRecDepth 100000
set_option maxHeartbeats 80000000
namespace Go.Proofs.Ytffeafbdcakfbaa
open Go.VL Go.Proofs.Try
theorem slTy22:slTy prog 22=some (3,⟨1,false,8,[.int .i64 0]⟩):=by kernel_rfl
theorem slTy31:slTy prog 31=some (22,⟨1,false,24,[.slice none 0 0]⟩):=by kernel_rfl
theorem tys0:tyI prog 1=some ⟨1,false,8,[.nilFunc]⟩∧tyI prog 2=some ⟨1,false,8,[.int .i64 0]⟩∧prog.underlying 2=some (.int .i64)∧tyI prog 3=some ⟨1,false,8,[.int .i64 0]⟩∧prog.underlying 3=some (.int .i64)∧tyI prog 4=some ⟨1,false,1,[.bool false]⟩∧prog.underlying 4=some .bool∧tyI prog 5=some ⟨1,false,1,[.int .u8 0]⟩∧prog.underlying 5=some (.int .u8)∧tyI prog 7=some ⟨4,true,24,[.int .i64 0,.int .i64 0,.bool false,.int .u8 0]⟩∧fOff prog 7 0=some 0∧fOff prog 7 1=some 1∧fOff prog 7 2=some 2∧fOff prog 7 3=some 3∧structPl prog 7=some [(0,1),(1,1),(2,1),(3,1)]∧tyI prog 9=some ⟨1,false,16,[.string ⟨#[]⟩]⟩∧tyI prog 12=some ⟨1,false,8,[.int .u64 0]⟩∧prog.underlying 12=some (.int .u64)∧tyI prog 13=some ⟨2,true,24,[.string ⟨#[]⟩,.int .u64 0]⟩∧fOff prog 13 0=some 0∧fOff prog 13 1=some 1∧structPl prog 13=some [(0,1),(1,1)]∧tyI prog 15=some ⟨1,false,8,[.pointer none]⟩∧prog.underlying 15=some (.pointer 207)∧tyI prog 16=some ⟨1,false,8,[.pointer none]⟩∧prog.underlying 16=some (.pointer 210)∧tyI prog 17=some ⟨1,false,8,[.pointer none]⟩∧prog.underlying 17=some (.pointer 219)∧tyI prog 18=some ⟨1,true,8,[.pointer none]⟩∧fOff prog 18 0=some 0∧structPl prog 18=some [(0,1)]∧tyI prog 21=some ⟨1,false,4,[.int .i32 0]⟩∧prog.underlying 21=some (.int .i32)∧tyI prog 22=some ⟨1,false,24,[.slice none 0 0]⟩∧slE prog 22=some 1∧slTy prog 22=some (3,⟨1,false,8,[.int .i64 0]⟩)∧prog.underlying 22=some (.slice 3)∧tyI prog 23=some ⟨1,false,24,[.slice none 0 0]⟩∧slE prog 23=some 2∧slTy prog 23=some (77,⟨2,true,16,[.int .i64 0,.int .i64 0]⟩)∧prog.underlying 23=some (.slice 77)∧tyI prog 24=some ⟨1,false,24,[.slice none 0 0]⟩∧slE prog 24=some 8∧slTy prog 24=some (26,⟨8,true,96,[.int .i64 0,.slice none 0 0,.slice none 0 0,.int .i64 0,.int .i64 0,.int .i64 0,.int .i64 0,.bool false]⟩)∧prog.underlying 24=some (.slice 26)∧tyI prog 25=some ⟨8,true,96,[.int .i64 0,.slice none 0 0,.slice none 0 0,.int .i64 0,.int .i64 0,.int .i64 0,.int .i64 0,.bool false]⟩∧fOff prog 25 0=some 0∧fOff prog 25 1=some 1∧fOff prog 25 2=some 2∧fOff prog 25 3=some 3∧fOff prog 25 4=some 4∧fOff prog 25 5=some 5∧fOff prog 25 6=some 6∧fOff prog 25 7=some 7∧structPl prog 25=some [(0,1),(1,1),(2,1),(3,1),(4,1),(5,1),(6,1),(7,1)]∧tyI prog 26=some ⟨8,true,96,[.int .i64 0,.slice none 0 0,.slice none 0 0,.int .i64 0,.int .i64 0,.int .i64 0,.int .i64 0,.bool false]⟩∧fOff prog 26 0=some 0∧fOff prog 26 1=some 1∧fOff prog 26 2=some 2∧fOff prog 26 3=some 3∧fOff prog 26 4=some 4∧fOff prog 26 5=some 5∧fOff prog 26 6=some 6∧fOff prog 26 7=some 7∧structPl prog 26=some [(0,1),(1,1),(2,1),(3,1),(4,1),(5,1),(6,1),(7,1)]∧tyI prog 27=some ⟨10,true,112,[.int .i64 0,.slice none 0 0,.slice none 0 0,.int .i64 0,.int .i64 0,.int .i64 0,.int .i64 0,.bool false,.int .i64 0,.bool false]⟩∧fOff prog 27 0=some 0∧fOff prog 27 1=some 8∧fOff prog 27 2=some 9∧structPl prog 27=some [(0,8),(8,1),(9,1)]:=by and_intros <;> kernel_rfl
theorem tys1:tyI prog 28=some ⟨10,true,112,[.int .i64 0,.slice none 0 0,.slice none 0 0,.int .i64 0,.int .i64 0,.int .i64 0,.int .i64 0,.bool false,.int .i64 0,.bool false]⟩∧fOff prog 28 0=some 0∧fOff prog 28 1=some 8∧fOff prog 28 2=some 9∧structPl prog 28=some [(0,8),(8,1),(9,1)]∧tyI prog 29=some ⟨1,false,8,[.nilFunc]⟩∧tyI prog 30=some ⟨1,false,8,[.nilFunc]⟩∧tyI prog 31=some ⟨1,false,24,[.slice none 0 0]⟩∧slE prog 31=some 1∧slTy prog 31=some (22,⟨1,false,24,[.slice none 0 0]⟩)∧prog.underlying 31=some (.slice 22)∧tyI prog 32=some ⟨1,false,8,[.nilFunc]⟩∧tyI prog 33=some ⟨1,false,8,[.nilFunc]⟩∧tyI prog 34=some ⟨1,false,8,[.nilFunc]⟩∧tyI prog 35=some ⟨1,false,8,[.int .i64 0]⟩∧prog.underlying 35=some (.int .i64)∧tyI prog 37=some ⟨1,false,8,[.nilFunc]⟩∧tyI prog 38=some ⟨1,false,8,[.nilFunc]⟩∧tyI prog 39=some ⟨1,false,8,[.nilFunc]⟩∧tyI prog 40=some ⟨1,false,8,[.nilFunc]⟩∧tyI prog 41=some ⟨1,false,8,[.nilFunc]⟩∧tyI prog 42=some ⟨1,false,8,[.nilFunc]⟩∧tyI prog 43=some ⟨1,false,8,[.nilFunc]⟩∧tyI prog 45=some ⟨1,false,8,[.nilFunc]⟩∧tyI prog 46=some ⟨1,false,24,[.slice none 0 0]⟩∧slE prog 46=some 3∧slTy prog 46=some (56,⟨3,true,40,[.int .i64 0,.int .i64 0,.slice none 0 0]⟩)∧prog.underlying 46=some (.slice 56)∧tyI prog 48=some ⟨1,false,8,[.nilFunc]⟩∧tyI prog 50=some ⟨1,false,8,[.nilFunc]⟩∧tyI prog 51=some ⟨3,true,40,[.int .i64 0,.int .i64 0,.slice none 0 0]⟩∧fOff prog 51 0=some 0∧fOff prog 51 1=some 1∧fOff prog 51 2=some 2∧structPl prog 51=some [(0,1),(1,1),(2,1)]∧tyI prog 52=some ⟨3,true,40,[.int .i64 0,.int .i64 0,.slice none 0 0]⟩∧fOff prog 52 0=some 0∧fOff prog 52 1=some 1∧fOff prog 52 2=some 2∧structPl prog 52=some [(0,1),(1,1),(2,1)]∧tyI prog 53=some ⟨1,false,8,[.nilFunc]⟩∧tyI prog 54=some ⟨1,false,24,[.slice none 0 0]⟩∧slE prog 54=some 2∧slTy prog 54=some (97,⟨2,true,16,[.int .i64 0,.int .i64 0]⟩)∧prog.underlying 54=some (.slice 97)∧tyI prog 55=some ⟨3,true,40,[.int .i64 0,.int .i64 0,.slice none 0 0]⟩∧fOff prog 55 0=some 0∧fOff prog 55 1=some 1∧fOff prog 55 2=some 2∧structPl prog 55=some [(0,1),(1,1),(2,1)]∧tyI prog 56=some ⟨3,true,40,[.int .i64 0,.int .i64 0,.slice none 0 0]⟩∧fOff prog 56 0=some 0∧fOff prog 56 1=some 1∧fOff prog 56 2=some 2∧structPl prog 56=some [(0,1),(1,1),(2,1)]∧tyI prog 57=some ⟨1,false,8,[.nilFunc]⟩∧tyI prog 58=some ⟨1,false,8,[.nilFunc]⟩∧tyI prog 59=some ⟨1,false,8,[.pointer none]⟩∧prog.underlying 59=some (.pointer 106)∧tyI prog 61=some ⟨1,false,8,[.nilFunc]⟩∧tyI prog 63=some ⟨1,false,8,[.nilFunc]⟩∧tyI prog 64=some ⟨1,false,8,[.nilFunc]⟩∧tyI prog 65=some ⟨1,false,8,[.nilFunc]⟩∧tyI prog 66=some ⟨1,false,8,[.pointer none]⟩∧prog.underlying 66=some (.pointer 68)∧tyI prog 67=some ⟨5,true,56,[.slice none 0 0,.int .i64 0,.int .i64 0,.int .i64 0,.int .i64 0]⟩∧fOff prog 67 0=some 0∧fOff prog 67 1=some 1∧fOff prog 67 2=some 2∧fOff prog 67 3=some 3:=by and_intros <;> kernel_rfl
theorem tys2:fOff prog 67 4=some 4∧structPl prog 67=some [(0,1),(1,1),(2,1),(3,1),(4,1)]∧tyI prog 68=some ⟨5,true,56,[.slice none 0 0,.int .i64 0,.int .i64 0,.int .i64 0,.int .i64 0]⟩∧fOff prog 68 0=some 0∧fOff prog 68 1=some 1∧fOff prog 68 2=some 2∧fOff prog 68 3=some 3∧fOff prog 68 4=some 4∧structPl prog 68=some [(0,1),(1,1),(2,1),(3,1),(4,1)]∧tyI prog 69=some ⟨1,false,8,[.nilFunc]⟩∧tyI prog 70=some ⟨1,false,8,[.nilFunc]⟩∧tyI prog 71=some ⟨1,false,8,[.pointer none]⟩∧prog.underlying 71=some (.pointer 26)∧tyI prog 72=some ⟨1,false,8,[.nilFunc]⟩∧tyI prog 73=some ⟨1,false,8,[.nilFunc]⟩∧tyI prog 74=some ⟨1,false,8,[.nilFunc]⟩∧tyI prog 75=some ⟨1,false,8,[.nilFunc]⟩∧tyI prog 76=some ⟨2,true,16,[.int .i64 0,.int .i64 0]⟩∧fOff prog 76 0=some 0∧fOff prog 76 1=some 1∧structPl prog 76=some [(0,1),(1,1)]∧tyI prog 77=some ⟨2,true,16,[.int .i64 0,.int .i64 0]⟩∧fOff prog 77 0=some 0∧fOff prog 77 1=some 1∧structPl prog 77=some [(0,1),(1,1)]∧tyI prog 79=some ⟨1,false,8,[.nilFunc]⟩∧tyI prog 80=some ⟨1,false,8,[.nilFunc]⟩∧tyI prog 81=some ⟨1,false,8,[.nilFunc]⟩∧tyI prog 82=some ⟨1,false,8,[.nilFunc]⟩∧tyI prog 83=some ⟨1,false,8,[.nilFunc]⟩∧tyI prog 84=some ⟨1,false,8,[.nilFunc]⟩∧tyI prog 85=some ⟨1,false,8,[.pointer none]⟩∧prog.underlying 85=some (.pointer 94)∧tyI prog 86=some ⟨1,false,8,[.nilFunc]⟩∧tyI prog 87=some ⟨1,false,8,[.pointer none]⟩∧prog.underlying 87=some (.pointer 28)∧tyI prog 88=some ⟨1,false,8,[.nilFunc]⟩∧tyI prog 90=some ⟨1,false,8,[.nilFunc]⟩∧tyI prog 91=some ⟨1,false,8,[.map none]⟩∧tyI prog 92=some ⟨1,false,24,[.slice none 0 0]⟩∧slE prog 92=some 3∧slTy prog 92=some (157,⟨3,true,24,[.int .i64 0,.pointer none,.pointer none]⟩)∧prog.underlying 92=some (.slice 157)∧tyI prog 93=some ⟨8,true,96,[.pointer none,.slice none 0 0,.map none,.slice none 0 0,.int .i64 0,.int .i64 0,.int .i64 0,.bool false]⟩∧fOff prog 93 0=some 0∧fOff prog 93 1=some 1∧fOff prog 93 2=some 2∧fOff prog 93 3=some 3∧fOff prog 93 4=some 4∧fOff prog 93 5=some 5∧fOff prog 93 6=some 6∧fOff prog 93 7=some 7∧structPl prog 93=some [(0,1),(1,1),(2,1),(3,1),(4,1),(5,1),(6,1),(7,1)]∧tyI prog 94=some ⟨8,true,96,[.pointer none,.slice none 0 0,.map none,.slice none 0 0,.int .i64 0,.int .i64 0,.int .i64 0,.bool false]⟩∧fOff prog 94 0=some 0∧fOff prog 94 1=some 1∧fOff prog 94 2=some 2∧fOff prog 94 3=some 3∧fOff prog 94 4=some 4∧fOff prog 94 5=some 5∧fOff prog 94 6=some 6∧fOff prog 94 7=some 7∧structPl prog 94=some [(0,1),(1,1),(2,1),(3,1),(4,1),(5,1),(6,1),(7,1)]∧tyI prog 95=some ⟨1,false,8,[.nilFunc]⟩∧tyI prog 96=some ⟨1,false,8,[.nilFunc]⟩∧tyI prog 97=some ⟨2,true,16,[.int .i64 0,.int .i64 0]⟩∧slE prog 97=none∧arE prog 97=some (2,1)∧structPl prog 97=none∧arrI prog 97=some (2,.i64):=by and_intros <;> kernel_rfl
theorem tys3:tyI prog 98=some ⟨1,false,8,[.nilFunc]⟩∧tyI prog 99=some ⟨1,false,8,[.nilFunc]⟩∧tyI prog 100=some ⟨1,false,8,[.nilFunc]⟩∧tyI prog 102=some ⟨1,false,8,[.nilFunc]⟩∧tyI prog 103=some ⟨1,false,8,[.nilFunc]⟩∧tyI prog 104=some ⟨1,false,24,[.slice none 0 0]⟩∧slE prog 104=some 3∧slTy prog 104=some (168,⟨3,true,40,[.int .i64 0,.slice none 0 0,.pointer none]⟩)∧prog.underlying 104=some (.slice 168)∧tyI prog 105=some ⟨19,true,224,[.int .i64 0,.slice none 0 0,.slice none 0 0,.int .i64 0,.int .i64 0,.int .i64 0,.int .i64 0,.bool false,.int .i64 0,.bool false,.slice none 0 0,.slice none 0 0,.slice none 0 0,.int .i64 0,.int .i64 0,.int .i64 0,.int .i64 0,.bool false,.bool false]⟩∧fOff prog 105 0=some 0∧fOff prog 105 1=some 10∧fOff prog 105 2=some 11∧fOff prog 105 3=some 12∧fOff prog 105 4=some 13∧fOff prog 105 5=some 14∧fOff prog 105 6=some 15∧fOff prog 105 7=some 16∧fOff prog 105 8=some 17∧fOff prog 105 9=some 18∧structPl prog 105=some [(0,10),(10,1),(11,1),(12,1),(13,1),(14,1),(15,1),(16,1),(17,1),(18,1)]∧tyI prog 106=some ⟨19,true,224,[.int .i64 0,.slice none 0 0,.slice none 0 0,.int .i64 0,.int .i64 0,.int .i64 0,.int .i64 0,.bool false,.int .i64 0,.bool false,.slice none 0 0,.slice none 0 0,.slice none 0 0,.int .i64 0,.int .i64 0,.int .i64 0,.int .i64 0,.bool false,.bool false]⟩∧fOff prog 106 0=some 0∧fOff prog 106 1=some 10∧fOff prog 106 2=some 11∧fOff prog 106 3=some 12∧fOff prog 106 4=some 13∧fOff prog 106 5=some 14∧fOff prog 106 6=some 15∧fOff prog 106 7=some 16∧fOff prog 106 8=some 17∧fOff prog 106 9=some 18∧structPl prog 106=some [(0,10),(10,1),(11,1),(12,1),(13,1),(14,1),(15,1),(16,1),(17,1),(18,1)]∧tyI prog 107=some ⟨1,false,8,[.nilFunc]⟩∧tyI prog 108=some ⟨6,true,64,[.int .i64 0,.int .i64 0,.slice none 0 0,.bool false,.int .i64 0,.int .i64 0]⟩∧fOff prog 108 0=some 0∧fOff prog 108 1=some 3∧fOff prog 108 2=some 4∧fOff prog 108 3=some 5∧structPl prog 108=some [(0,3),(3,1),(4,1),(5,1)]∧tyI prog 109=some ⟨6,true,64,[.int .i64 0,.int .i64 0,.slice none 0 0,.bool false,.int .i64 0,.int .i64 0]⟩∧fOff prog 109 0=some 0∧fOff prog 109 1=some 3∧fOff prog 109 2=some 4∧fOff prog 109 3=some 5∧structPl prog 109=some [(0,3),(3,1),(4,1),(5,1)]∧tyI prog 110=some ⟨1,false,8,[.nilFunc]⟩∧tyI prog 111=some ⟨1,false,8,[.pointer none]⟩∧prog.underlying 111=some (.pointer 170)∧tyI prog 112=some ⟨3,true,40,[.int .i64 0,.slice none 0 0,.pointer none]⟩∧fOff prog 112 0=some 0∧fOff prog 112 1=some 1∧fOff prog 112 2=some 2∧structPl prog 112=some [(0,1),(1,1),(2,1)]∧tyI prog 113=some ⟨3,true,40,[.int .i64 0,.slice none 0 0,.pointer none]⟩∧fOff prog 113 0=some 0∧fOff prog 113 1=some 1∧fOff prog 113 2=some 2∧structPl prog 113=some [(0,1),(1,1),(2,1)]∧tyI prog 115=some ⟨1,false,8,[.nilFunc]⟩∧tyI prog 116=some ⟨1,false,8,[.nilFunc]⟩∧tyI prog 117=some ⟨1,false,8,[.pointer none]⟩∧prog.underlying 117=some (.pointer 119)∧tyI prog 118=some ⟨6,true,64,[.slice none 0 0,.int .i64 0,.int .i64 0,.int .i64 0,.int .i64 0,.bool false]⟩∧fOff prog 118 0=some 0∧fOff prog 118 1=some 1∧fOff prog 118 2=some 2∧fOff prog 118 3=some 3∧fOff prog 118 4=some 4∧fOff prog 118 5=some 5:=by and_intros <;> kernel_rfl
theorem tys4:structPl prog 118=some [(0,1),(1,1),(2,1),(3,1),(4,1),(5,1)]∧tyI prog 119=some ⟨6,true,64,[.slice none 0 0,.int .i64 0,.int .i64 0,.int .i64 0,.int .i64 0,.bool false]⟩∧fOff prog 119 0=some 0∧fOff prog 119 1=some 1∧fOff prog 119 2=some 2∧fOff prog 119 3=some 3∧fOff prog 119 4=some 4∧fOff prog 119 5=some 5∧structPl prog 119=some [(0,1),(1,1),(2,1),(3,1),(4,1),(5,1)]∧tyI prog 120=some ⟨2,true,32,[.int .i64 0,.slice none 0 0]⟩∧fOff prog 120 0=some 0∧fOff prog 120 1=some 1∧structPl prog 120=some [(0,1),(1,1)]∧tyI prog 121=some ⟨2,true,32,[.int .i64 0,.slice none 0 0]⟩∧fOff prog 121 0=some 0∧fOff prog 121 1=some 1∧structPl prog 121=some [(0,1),(1,1)]∧tyI prog 123=some ⟨1,false,8,[.nilFunc]⟩∧tyI prog 124=some ⟨1,false,8,[.pointer none]⟩∧prog.underlying 124=some (.pointer 126)∧tyI prog 125=some ⟨12,true,128,[.int .i64 0,.int .i64 0,.slice none 0 0,.slice none 0 0,.int .i64 0,.int .i64 0,.int .i64 0,.int .i64 0,.bool false,.int .i64 0,.int .i64 0,.pointer none]⟩∧fOff prog 125 0=some 0∧fOff prog 125 1=some 1∧fOff prog 125 2=some 9∧fOff prog 125 3=some 10∧fOff prog 125 4=some 11∧structPl prog 125=some [(0,1),(1,8),(9,1),(10,1),(11,1)]∧tyI prog 126=some ⟨12,true,128,[.int .i64 0,.int .i64 0,.slice none 0 0,.slice none 0 0,.int .i64 0,.int .i64 0,.int .i64 0,.int .i64 0,.bool false,.int .i64 0,.int .i64 0,.pointer none]⟩∧fOff prog 126 0=some 0∧fOff prog 126 1=some 1∧fOff prog 126 2=some 9∧fOff prog 126 3=some 10∧fOff prog 126 4=some 11∧structPl prog 126=some [(0,1),(1,8),(9,1),(10,1),(11,1)]∧tyI prog 127=some ⟨1,false,8,[.nilFunc]⟩∧tyI prog 128=some ⟨1,false,8,[.nilFunc]⟩∧tyI prog 129=some ⟨1,false,8,[.nilFunc]⟩∧tyI prog 130=some ⟨1,false,8,[.nilFunc]⟩∧tyI prog 131=some ⟨1,false,8,[.nilFunc]⟩∧tyI prog 132=some ⟨1,false,8,[.nilFunc]⟩∧tyI prog 133=some ⟨1,false,8,[.nilFunc]⟩∧tyI prog 134=some ⟨1,false,8,[.nilFunc]⟩∧tyI prog 135=some ⟨1,false,8,[.nilFunc]⟩∧tyI prog 136=some ⟨1,false,8,[.nilFunc]⟩∧tyI prog 137=some ⟨1,false,8,[.nilFunc]⟩∧tyI prog 138=some ⟨1,false,8,[.nilFunc]⟩∧tyI prog 139=some ⟨1,false,8,[.pointer none]⟩∧prog.underlying 139=some (.pointer 142)∧tyI prog 140=some ⟨1,false,24,[.slice none 0 0]⟩∧slE prog 140=some 1∧slTy prog 140=some (54,⟨1,false,24,[.slice none 0 0]⟩)∧prog.underlying 140=some (.slice 54)∧tyI prog 141=some ⟨7,true,104,[.slice none 0 0,.int .i64 0,.int .i64 0,.int .i64 0,.bool false,.slice none 0 0,.slice none 0 0]⟩∧fOff prog 141 0=some 0∧fOff prog 141 1=some 1∧fOff prog 141 2=some 2∧fOff prog 141 3=some 3∧fOff prog 141 4=some 4∧fOff prog 141 5=some 5∧fOff prog 141 6=some 6∧structPl prog 141=some [(0,1),(1,1),(2,1),(3,1),(4,1),(5,1),(6,1)]∧tyI prog 142=some ⟨7,true,104,[.slice none 0 0,.int .i64 0,.int .i64 0,.int .i64 0,.bool false,.slice none 0 0,.slice none 0 0]⟩∧fOff prog 142 0=some 0∧fOff prog 142 1=some 1∧fOff prog 142 2=some 2∧fOff prog 142 3=some 3∧fOff prog 142 4=some 4∧fOff prog 142 5=some 5∧fOff prog 142 6=some 6∧structPl prog 142=some [(0,1),(1,1),(2,1),(3,1),(4,1),(5,1),(6,1)]:=by and_intros <;> kernel_rfl
theorem tys5:tyI prog 143=some ⟨1,false,8,[.nilFunc]⟩∧tyI prog 144=some ⟨1,false,8,[.pointer none]⟩∧prog.underlying 144=some (.pointer 146)∧tyI prog 145=some ⟨12,true,128,[.int .i64 0,.int .i64 0,.slice none 0 0,.slice none 0 0,.int .i64 0,.int .i64 0,.int .i64 0,.int .i64 0,.bool false,.int .i64 0,.int .i64 0,.pointer none]⟩∧fOff prog 145 0=some 0∧fOff prog 145 1=some 1∧fOff prog 145 2=some 9∧fOff prog 145 3=some 10∧fOff prog 145 4=some 11∧structPl prog 145=some [(0,1),(1,8),(9,1),(10,1),(11,1)]∧tyI prog 146=some ⟨12,true,128,[.int .i64 0,.int .i64 0,.slice none 0 0,.slice none 0 0,.int .i64 0,.int .i64 0,.int .i64 0,.int .i64 0,.bool false,.int .i64 0,.int .i64 0,.pointer none]⟩∧fOff prog 146 0=some 0∧fOff prog 146 1=some 1∧fOff prog 146 2=some 9∧fOff prog 146 3=some 10∧fOff prog 146 4=some 11∧structPl prog 146=some [(0,1),(1,8),(9,1),(10,1),(11,1)]∧tyI prog 147=some ⟨1,false,8,[.nilFunc]⟩∧tyI prog 148=some ⟨1,false,24,[.slice none 0 0]⟩∧slE prog 148=some 10∧slTy prog 148=some (28,⟨10,true,112,[.int .i64 0,.slice none 0 0,.slice none 0 0,.int .i64 0,.int .i64 0,.int .i64 0,.int .i64 0,.bool false,.int .i64 0,.bool false]⟩)∧prog.underlying 148=some (.slice 28)∧tyI prog 149=some ⟨1,false,8,[.nilFunc]⟩∧tyI prog 150=some ⟨1,false,8,[.nilFunc]⟩∧tyI prog 151=some ⟨1,false,8,[.pointer none]⟩∧prog.underlying 151=some (.pointer 153)∧tyI prog 152=some ⟨18,true,144,[.int .i64 0,.int .i64 0,.int .i64 0,.int .i64 0,.int .i64 0,.int .i64 0,.int .i64 0,.int .i64 0,.int .i64 0,.int .i64 0,.int .i64 0,.int .i64 0,.int .i64 0,.int .i64 0,.int .i64 0,.int .i64 0,.int .i64 0,.int .i64 0]⟩∧slE prog 152=none∧arE prog 152=some (9,2)∧structPl prog 152=none∧tyI prog 153=some ⟨18,true,144,[.int .i64 0,.int .i64 0,.int .i64 0,.int .i64 0,.int .i64 0,.int .i64 0,.int .i64 0,.int .i64 0,.int .i64 0,.int .i64 0,.int .i64 0,.int .i64 0,.int .i64 0,.int .i64 0,.int .i64 0,.int .i64 0,.int .i64 0,.int .i64 0]⟩∧slE prog 153=none∧arE prog 153=some (9,2)∧structPl prog 153=none∧tyI prog 154=some ⟨1,false,8,[.pointer none]⟩∧prog.underlying 154=some (.pointer 183)∧tyI prog 155=some ⟨1,false,8,[.nilFunc]⟩∧tyI prog 156=some ⟨3,true,24,[.int .i64 0,.pointer none,.pointer none]⟩∧fOff prog 156 0=some 0∧fOff prog 156 1=some 1∧fOff prog 156 2=some 2∧structPl prog 156=some [(0,1),(1,1),(2,1)]∧tyI prog 157=some ⟨3,true,24,[.int .i64 0,.pointer none,.pointer none]⟩∧fOff prog 157 0=some 0∧fOff prog 157 1=some 1∧fOff prog 157 2=some 2∧structPl prog 157=some [(0,1),(1,1),(2,1)]∧tyI prog 159=some ⟨1,false,8,[.nilFunc]⟩∧tyI prog 160=some ⟨1,false,8,[.nilFunc]⟩∧tyI prog 161=some ⟨1,false,8,[.nilFunc]⟩∧tyI prog 162=some ⟨1,false,8,[.nilFunc]⟩∧tyI prog 163=some ⟨1,false,8,[.nilFunc]⟩∧tyI prog 164=some ⟨1,false,8,[.nilFunc]⟩∧tyI prog 165=some ⟨1,false,8,[.int .u64 0]⟩∧prog.underlying 165=some (.int .u64)∧tyI prog 166=some ⟨1,false,8,[.nilFunc]⟩∧tyI prog 167=some ⟨3,true,40,[.int .i64 0,.slice none 0 0,.pointer none]⟩∧fOff prog 167 0=some 0∧structPl prog 167=some [(0,3)]∧tyI prog 168=some ⟨3,true,40,[.int .i64 0,.slice none 0 0,.pointer none]⟩∧fOff prog 168 0=some 0∧structPl prog 168=some [(0,3)]∧tyI prog 169=some ⟨5,true,40,[.int .i64 0,.pointer none,.int .i64 0,.int .i64 0,.pointer none]⟩∧fOff prog 169 0=some 0∧fOff prog 169 1=some 1∧fOff prog 169 2=some 2∧fOff prog 169 3=some 3∧fOff prog 169 4=some 4∧structPl prog 169=some [(0,1),(1,1),(2,1),(3,1),(4,1)]∧tyI prog 170=some ⟨5,true,40,[.int .i64 0,.pointer none,.int .i64 0,.int .i64 0,.pointer none]⟩:=by and_intros <;> kernel_rfl
theorem tys6:fOff prog 170 0=some 0∧fOff prog 170 1=some 1∧fOff prog 170 2=some 2∧fOff prog 170 3=some 3∧fOff prog 170 4=some 4∧structPl prog 170=some [(0,1),(1,1),(2,1),(3,1),(4,1)]∧tyI prog 171=some ⟨1,false,8,[.nilFunc]⟩∧tyI prog 172=some ⟨1,false,24,[.slice none 0 0]⟩∧slE prog 172=some 1∧slTy prog 172=some (23,⟨1,false,24,[.slice none 0 0]⟩)∧prog.underlying 172=some (.slice 23)∧tyI prog 173=some ⟨1,false,8,[.nilFunc]⟩∧tyI prog 174=some ⟨1,false,8,[.nilFunc]⟩∧tyI prog 175=some ⟨1,false,8,[.nilFunc]⟩∧tyI prog 176=some ⟨1,false,8,[.nilFunc]⟩∧tyI prog 177=some ⟨1,false,8,[.nilFunc]⟩∧tyI prog 178=some ⟨1,false,8,[.nilFunc]⟩∧tyI prog 179=some ⟨1,false,8,[.nilFunc]⟩∧tyI prog 180=some ⟨1,false,8,[.nilFunc]⟩∧tyI prog 181=some ⟨1,false,8,[.nilFunc]⟩∧tyI prog 182=some ⟨2,true,16,[.nilFunc,.pointer none]⟩∧fOff prog 182 0=some 0∧fOff prog 182 1=some 1∧structPl prog 182=some [(0,1),(1,1)]∧tyI prog 183=some ⟨2,true,16,[.nilFunc,.pointer none]⟩∧fOff prog 183 0=some 0∧fOff prog 183 1=some 1∧structPl prog 183=some [(0,1),(1,1)]∧tyI prog 184=some ⟨1,false,8,[.nilFunc]⟩∧tyI prog 185=some ⟨1,false,8,[.nilFunc]⟩∧tyI prog 186=some ⟨1,false,8,[.nilFunc]⟩∧tyI prog 187=some ⟨1,false,8,[.nilFunc]⟩∧tyI prog 188=some ⟨1,false,8,[.nilFunc]⟩∧tyI prog 189=some ⟨1,false,8,[.nilFunc]⟩∧tyI prog 190=some ⟨1,false,8,[.nilFunc]⟩∧tyI prog 191=some ⟨1,false,8,[.nilFunc]⟩∧tyI prog 192=some ⟨1,false,8,[.nilFunc]⟩∧tyI prog 193=some ⟨1,false,8,[.nilFunc]⟩∧tyI prog 195=some ⟨1,false,8,[.nilFunc]⟩∧tyI prog 196=some ⟨1,false,8,[.nilFunc]⟩∧tyI prog 198=some ⟨1,false,8,[.nilFunc]⟩∧tyI prog 199=some ⟨1,false,8,[.nilFunc]⟩∧tyI prog 200=some ⟨1,false,8,[.nilFunc]⟩∧tyI prog 201=some ⟨1,false,8,[.nilFunc]⟩∧tyI prog 202=some ⟨1,false,8,[.nilFunc]⟩∧tyI prog 203=some ⟨1,false,8,[.nilFunc]⟩∧tyI prog 204=some ⟨1,false,8,[.nilFunc]⟩∧tyI prog 205=some ⟨1,false,8,[.nilFunc]⟩∧tyI prog 206=some ⟨4,true,40,[.pointer none,.pointer none,.pointer none,.string ⟨#[]⟩]⟩∧fOff prog 206 0=some 0∧fOff prog 206 1=some 1∧fOff prog 206 2=some 2∧fOff prog 206 3=some 3∧structPl prog 206=some [(0,1),(1,1),(2,1),(3,1)]∧tyI prog 208=some ⟨0,true,0,[]⟩∧slE prog 208=none∧arE prog 208=some (0,1)∧structPl prog 208=none∧tyI prog 209=some ⟨0,true,0,[]⟩∧structPl prog 209=some [(0,0)]∧tyI prog 211=some ⟨1,false,4,[.int .u32 0]⟩∧prog.underlying 211=some (.int .u32)∧tyI prog 214=some ⟨1,false,8,[.nilFunc]⟩∧tyI prog 215=some ⟨1,false,8,[.pointer none]⟩∧prog.underlying 215=some (.pointer 5)∧tyI prog 218=some ⟨11,true,48,[.int .u64 0,.int .u64 0,.int .u32 0,.int .u8 0,.int .u8 0,.int .u8 0,.int .u8 0,.nilFunc,.pointer none,.int .i32 0,.int .i32 0]⟩∧fOff prog 218 0=some 0∧fOff prog 218 1=some 1∧fOff prog 218 2=some 2∧fOff prog 218 3=some 3:=by and_intros <;> kernel_rfl
theorem tys7:fOff prog 218 4=some 4∧fOff prog 218 5=some 5∧fOff prog 218 6=some 6∧fOff prog 218 7=some 7∧fOff prog 218 8=some 8∧fOff prog 218 9=some 9∧fOff prog 218 10=some 10∧structPl prog 218=some [(0,1),(1,1),(2,1),(3,1),(4,1),(5,1),(6,1),(7,1),(8,1),(9,1),(10,1)]:=by and_intros <;> kernel_rfl
theorem tysA:type_of% (And.intro @tys0<|And.intro @tys1<|And.intro @tys2<|And.intro @tys3<|And.intro @tys4<|And.intro @tys5<|And.intro @tys6 @tys7):=And.intro @tys0<|And.intro @tys1<|And.intro @tys2<|And.intro @tys3<|And.intro @tys4<|And.intro @tys5<|And.intro @tys6 @tys7
def iD (n:Int):D:=.sc (.int .i64 n)
def bD (b:Bool):D:=.sc (.bool b)
def i64 (n:Int):V:=.d (.sc (.int .i64 n))
def bV (b:Bool):V:=.d (.sc (.bool b))
abbrev intsD (l:List Int):D:=.sl (l.map fun x=>[iD x])
theorem w64 (n:Int) (h:-9223372036854775808≤n∧n≤9223372036854775807):IntKind.i64.wrap n=n:=IntWalk.i64_in n h
def spanC (s:Int × Int):List D:=[iD s.1,iD s.2]
inductive Re where
 | mk (op:Int) (set:List (Int × Int)) (kids:List Re) (mn mx mode n:Int) (neg:Bool)
def Re.op:Re→Int | .mk x _ _ _ _ _ _ _=>x
def Re.set:Re→List (Int × Int) | .mk _ x _ _ _ _ _ _=>x
def Re.kids:Re→List Re | .mk _ _ x _ _ _ _ _=>x
def Re.mn:Re→Int | .mk _ _ _ x _ _ _ _=>x
def Re.mx:Re→Int | .mk _ _ _ _ x _ _ _=>x
def Re.mode:Re→Int | .mk _ _ _ _ _ x _ _=>x
def Re.n:Re→Int | .mk _ _ _ _ _ _ x _=>x
def Re.neg:Re→Bool | .mk _ _ _ _ _ _ _ x=>x
mutual
def Re.cells:Re→List D
 | .mk op set kids mn mx mode n neg=>[iD op,.sl (set.map spanC),.sl (Re.cellsL kids),iD mn,iD mx,iD mode,iD n,bD neg]
def Re.cellsL:List Re→List (List D)
 | []=>[]
 | k::l=>k.cells::Re.cellsL l
end
theorem Re.cellsL_eq:∀l:List Re,Re.cellsL l=l.map Re.cells
 | []=>by simp [Re.cellsL]
 | k::l=>by simp [Re.cellsL,Re.cellsL_eq l]
theorem Re.cells_eq (re:Re):re.cells=[iD re.op,.sl (re.set.map spanC),.sl (re.kids.map Re.cells),iD re.mn,iD re.mx,iD re.mode,iD re.n,bD re.neg]:=by
 cases re; simp [Re.cells,Re.cellsL_eq,Re.op,Re.set,Re.kids,Re.mn,Re.mx,Re.mode,Re.n,Re.neg]
theorem Re.cells_len (re:Re):re.cells.length=8:=by rw[Re.cells_eq]; rfl
def reV (re:Re):V:=.ag (re.cells.map .d)
theorem take_cells (re:Re):(re.cells.map V.d).take 8=re.cells.map V.d:=List.take_of_length_le (by simp [Re.cells_len])
theorem drop_cells (re:Re):(re.cells.map V.d).drop 8=[]:=List.drop_of_length_le (by simp [Re.cells_len])
theorem reV_fold (re:Re):V.ag (re.cells.map V.d)=reV re:=rfl
theorem reV_eq (re:Re):reV re=.ag [.d (iD re.op),.d (.sl (re.set.map spanC)),.d (.sl (re.kids.map Re.cells)),.d (iD re.mn),.d (iD re.mx),.d (iD re.mode),.d (iD re.n),.d (bD re.neg)]:=by
 rw[reV,Re.cells_eq]; rfl
theorem renV_reV (ρ:List Nat) (re:Re):renV ρ (reV re)=reV re:=by rw[reV_eq]; rfl
def reEl (re:Re):V:=.d (.el re.cells)
mutual
def Re.size:Re→Nat
 | .mk _ _ kids _ _ _ _ _=>1 + Re.sizeL kids
def Re.sizeL:List Re→Nat
 | []=>0
 | k::l=>k.size + Re.sizeL l
end
theorem Re.size_eq (re:Re):re.size=1 + Re.sizeL re.kids:=by cases re; simp [Re.size,Re.kids]
theorem Re.size_pos (re:Re):0 < re.size:=by rw[Re.size_eq]; omega
theorem Re.sizeL_mem:∀{l:List Re} {k:Re},k∈l→k.size≤Re.sizeL l
 | k'::l,k,h=>by
  simp only[Re.sizeL]
  rcases List.mem_cons.1 h with rfl | h
  ·omega
  ·have:=Re.sizeL_mem h; omega
theorem Re.size_kid {re k:Re} (h:k∈re.kids):k.size < re.size:=by
 have:=Re.sizeL_mem h
 rw[Re.size_eq re]; omega
theorem Re.len_le:∀l:List Re,l.length≤Re.sizeL l
 | []=>by simp
 | k::l=>by simp only[List.length_cons,Re.sizeL]; have:=Re.len_le l; have:=k.size_pos; omega
theorem take_get {α:Type} {l:List α} {i:Nat} {x:α} (h:l[i]?=some x):l.take (i + 1)=l.take i++[x]:=by
 rw[List.take_add_one,h]; rfl
theorem Re.sizeL_append:∀a b:List Re,Re.sizeL (a++b)=Re.sizeL a + Re.sizeL b
 | [],b=>by simp [Re.sizeL]
 | k::l,b=>by simp only[List.cons_append,Re.sizeL,Re.sizeL_append l b]; omega
theorem Re.sizeL_take (l:List Re) (i:Nat):Re.sizeL (l.take i)≤Re.sizeL l:=by
 conv=>rhs; rw[← List.take_append_drop i l]
 rw[Re.sizeL_append]; omega
theorem cellsV_reV (re:Re):cellsV (reV re)=some (re.cells.map V.d):=rfl
theorem mapM_some {α β:Type} (f:α→Option β) (g:β→α) (h:∀x,f (g x)=some x):∀l:List β,(l.map g).mapM f=some l
 | []=>rfl
 | x::l=>by rw[List.map_cons,List.mapM_cons,h,mapM_some f g h l]; rfl
theorem mapM_toD (cs:List D):(cs.map V.d).mapM toD=some cs:=mapM_some toD V.d (fun _=>rfl) cs
theorem frzD_d (n lim:Nat) (s:List VL.Obj) (x:D):frzD n lim s (.d x)=some x:=by cases n <;> rfl
theorem mapM_frzD (n lim:Nat) (s:List VL.Obj) (cs:List D):(cs.map V.d).mapM (frzD n lim s)=some cs:=mapM_some (frzD n lim s) V.d (frzD_d n lim s) cs
theorem mapM_frzE (n lim:Nat) (s:List VL.Obj) (l:List (List D)):(l.map fun c=>c.map V.d).mapM (fun (e:List V)=>e.mapM (frzD n lim s))=some l:=mapM_some (fun (e:List V)=>e.mapM (frzD n lim s)) (fun c=>c.map V.d) (mapM_frzD n lim s) l
theorem Re.ind {Q:Re→Prop} (h:∀re,(∀k∈re.kids,Q k)→Q re) (re:Re):Q re:=by
 induction hn:re.size using Nat.strongRecOn generalizing re with
 | _ n ih=>exact h re fun k hk=>ih k.size (by have:=Re.size_kid hk; omega) k rfl
theorem vsB:type_of% (
 And.intro @cellsV_reV <|
 And.intro @mapM_toD <|
 And.intro @mapM_frzD <|
 And.intro @mapM_frzE <|
 And.intro @frzD_d <|
 And.intro @Re.cells_len <|
 And.intro @take_cells <|
 And.intro @drop_cells <|
 @reV_fold) :=
 And.intro @cellsV_reV <|
 And.intro @mapM_toD <|
 And.intro @mapM_frzD <|
 And.intro @mapM_frzE <|
 And.intro @frzD_d <|
 And.intro @Re.cells_len <|
 And.intro @take_cells <|
 And.intro @drop_cells <|
 @reV_fold
theorem zX:type_of% (And.intro vsL<|And.intro vsB<|And.intro vsC<|And.intro tysA @appendWp.eq_1):=(And.intro vsL<|And.intro vsB<|And.intro vsC<|And.intro tysA @appendWp.eq_1)
theorem zW:type_of% (And.intro vsA<|And.intro vsB<|And.intro vsC<|And.intro tysA @appendWp.eq_1):=(And.intro vsA<|And.intro vsB<|And.intro vsC<|And.intro tysA @appendWp.eq_1)
theorem zU:type_of% (And.intro @keepE_app<|And.intro @List.contains_cons.{0}<|And.intro @List.contains_nil.{0}<|And.intro Bool.or_false<|And.intro Bool.false_or<|And.intro Bool.or_true<|And.intro Bool.true_or<|And.intro @updE.eq_1<|And.intro @trimE_upd<|And.intro @trimE_trim<|And.intro @trimE_app<|And.intro @if_true.{1} @if_false.{1}):=(And.intro @keepE_app<|And.intro @List.contains_cons.{0}<|And.intro @List.contains_nil.{0}<|And.intro Bool.or_false<|And.intro Bool.false_or<|And.intro Bool.or_true<|And.intro Bool.true_or<|And.intro @updE.eq_1<|And.intro @trimE_upd<|And.intro @trimE_trim<|And.intro @trimE_app<|And.intro @if_true.{1} @if_false.{1})
end Go.Proofs.Ytffeafbdcakfbaa
namespace Go.Proofs.Ytffeafbdcakfbaa
open Go.VL Go.Proofs.Try
theorem mix:prog.follows .mixedOrders=true:=by rfl
def I64 (n:Int):Prop:=-9223372036854775808≤n∧n≤9223372036854775807
def around (n most:Int):Int:=if n < 0 then (-(n+1)).tmod most else n.tmod most
theorem around_ok (n m:Int) (hm:1≤m) (hn:I64 n):PureOK prog 12 [i64 n,i64 m] (i64 (around n m)):=by
 unfold I64 at hn
 refine fn_ok func12 rfl ntmps12 results12 rfl 0 19 (by simp) (by simp) ?_
 simp only[vsA,vsB,vsC,appendWp,Nat.reduceShiftRight,Nat.reduceMod,Nat.reduceLT,Nat.reduceMul,Nat.reduceSub,Int.reduceToNat,Int.reduceNeg,Int.reduceLT,Int.reduceLE,Int.reduceEq,Nat.reduceEqDiff,Nat.reduceAdd,Nat.reduceLeDiff,reduceIte,reduceCtorEq,Nat.reduceBEq,i64]
 refine⟨fun h=>⟨by omega,?_⟩,fun h=>⟨by omega,?_⟩⟩
 ·rw[w64 (n + 1) (by omega),w64 _ (by omega)]
  simp [around,h]
 ·simp [around,h]
def pick (l:List Int) (i:Int) (most:Int):Int:=if i < 0∨l.length≤i then 0 else around (l[i.toNat]?.getD 0) most
theorem pick_ok (l:List Int) (hl:∀x∈l,I64 x) (i m:Int) (hm:1≤m):PureOK prog 86 [.d (intsD l),i64 i,i64 m] (i64 (pick l i m)):=by
 refine fn_ok func86 rfl ntmps86 results86 rfl 0 71 (by simp) (by simp) ?_
 by_cases h0:i < 0
 ·simp only[zW,Nat.reduceShiftRight,Nat.reduceMod,Nat.reduceLT,Nat.reduceMul,Nat.reduceSub,Int.reduceToNat,Int.reduceNeg,Int.reduceLT,Int.reduceLE,Int.reduceEq,Nat.reduceEqDiff,Nat.reduceAdd,Nat.reduceLeDiff,reduceIte,reduceCtorEq,Nat.reduceBEq,i64,intsD,iD,h0]
  simp [h0,pick]
 ·by_cases h1:(l.length:Int)≤i
  ·simp only[zW,Nat.reduceShiftRight,Nat.reduceMod,Nat.reduceLT,Nat.reduceMul,Nat.reduceSub,Int.reduceToNat,Int.reduceNeg,Int.reduceLT,Int.reduceLE,Int.reduceEq,Nat.reduceEqDiff,Nat.reduceAdd,Nat.reduceLeDiff,reduceIte,reduceCtorEq,Nat.reduceBEq,i64,intsD,iD,h0,h1,ge_iff_le]
   simp [h0,pick]; omega
  ·have hlt:i.toNat < l.length:=by omega
   obtain⟨x,hx⟩:∃x,l[i.toNat]?=some x:=⟨_,List.getElem?_eq_getElem hlt⟩
   simp only[zW,Nat.reduceShiftRight,Nat.reduceMod,Nat.reduceLT,Nat.reduceMul,Nat.reduceSub,Int.reduceToNat,Int.reduceNeg,Int.reduceLT,Int.reduceLE,Int.reduceEq,Nat.reduceEqDiff,Nat.reduceAdd,Nat.reduceLeDiff,reduceIte,reduceCtorEq,Nat.reduceBEq,i64,intsD,iD,h0,h1,ge_iff_le,hx,show 0≤i by omega,show i < l.length by omega]
   refine call_pure (around_ok x m hm (hl x (List.mem_of_getElem? hx))) rfl rfl ?_
   simp only[zW,Nat.reduceShiftRight,Nat.reduceMod,Nat.reduceLT,Nat.reduceMul,Nat.reduceSub,Int.reduceToNat,Int.reduceNeg,Int.reduceLT,Int.reduceLE,Int.reduceEq,Nat.reduceEqDiff,Nat.reduceAdd,Nat.reduceLeDiff,reduceIte,reduceCtorEq,Nat.reduceBEq,i64]
   simp [h0,pick,hx]; omega
structure Mk where
 l:List Int
 pos:Int
 uses:Int
 left:Int
 caps:Int
def mkO (m:Mk):VL.Obj:=⟨0,true,5,[[.d (intsD m.l),i64 m.pos,i64 m.uses,i64 m.left,i64 m.caps]]⟩
def mkV:V:=.rf 0 0 0 0
structure Mk.ok (m:Mk):Prop where
 l:∀x∈m.l,I64 x
 pos:0≤m.pos∧m.pos≤1000000000
 left:-1000000000≤m.left∧m.left≤1000000000
 caps:0≤m.caps∧m.caps≤1000000000
def Mk.next (m:Mk) (n:Int):Int × Mk:=(pick m.l m.pos n,{ m with pos:=m.pos + 1 })
theorem next_ok (m:Mk) (hl:∀x∈m.l,I64 x) (hp:0≤m.pos∧m.pos≤1000000000) (n:Int) (hn:1≤n):callWp prog 68 [mkV,i64 n] [mkO m] fun v s=>v=i64 (m.next n).1∧s=[mkO (m.next n).2]:=by
 have w1:IntKind.i64.wrap (m.pos + 1)=m.pos + 1:=w64 _ (by omega)
 have w2:IntKind.i64.wrap (m.pos + 1 - 1)=m.pos:=by rw[w64 _ (by omega)]; omega
 refine fn_ok func68 rfl ntmps68 results68 rfl 1 19 (by simp) (by simp) ?_
 simp only[zW,Nat.reduceShiftRight,Nat.reduceMod,Nat.reduceLT,Nat.reduceMul,Nat.reduceSub,Int.reduceToNat,Int.reduceNeg,Int.reduceLT,Int.reduceLE,Int.reduceEq,Nat.reduceEqDiff,Nat.reduceAdd,Nat.reduceLeDiff,reduceIte,reduceCtorEq,Nat.reduceBEq,i64,mkV,mkO,w1,w2]
 refine draw_c mix [] [] (by rfl) ?_
 simp only[zW,Nat.reduceShiftRight,Nat.reduceMod,Nat.reduceLT,Nat.reduceMul,Nat.reduceSub,Int.reduceToNat,Int.reduceNeg,Int.reduceLT,Int.reduceLE,Int.reduceEq,Nat.reduceEqDiff,Nat.reduceAdd,Nat.reduceLeDiff,reduceIte,reduceCtorEq,Nat.reduceBEq,i64,mkV,mkO,w1,w2]
 refine callC_pure (pick_ok m.l hl m.pos n hn) rfl rfl ?_
 simp only[zW,Nat.reduceShiftRight,Nat.reduceMod,Nat.reduceLT,Nat.reduceMul,Nat.reduceSub,Int.reduceToNat,Int.reduceNeg,Int.reduceLT,Int.reduceLE,Int.reduceEq,Nat.reduceEqDiff,Nat.reduceAdd,Nat.reduceLeDiff,reduceIte,reduceCtorEq,Nat.reduceBEq,i64,mkV,mkO,w1,w2,Mk.next]
def setSpans:List (List (Int × Int)):=[[(97,97)],[(98,98)],[(97,98)],[(99,99)],[(97,99)],[(0,96),(98,255)],[(10,10),(97,97)],[]]
def Re.ofSet (set:List (Int × Int)):Re:=.mk 1 set [] 0 0 0 0 false
def Mk.set (m:Mk):Re × Mk :=
 let (k,m1):=m.next 15
 (Re.ofSet ((setSpans[(k / 2).toNat]?).getD []),m1)
theorem pick_range (l:List Int) (i m:Int) (hm:1≤m):0≤pick l i m∧pick l i m < m:=by
 unfold pick around
 split
 ·omega
 ·split
  ·rename_i h
   have h1:0≤-(l[i.toNat]?.getD 0 + 1):=by omega
   exact⟨Int.tmod_nonneg _ h1,Int.tmod_lt_of_pos _ (by omega)⟩
  ·rename_i h
   exact⟨Int.tmod_nonneg _ (by omega),Int.tmod_lt_of_pos _ (by omega)⟩
theorem set_ok (m:Mk) (hl:∀x∈m.l,I64 x) (hp:0≤m.pos∧m.pos≤1000000000):callWp prog 69 [mkV] [mkO m] fun v s=>v=reV m.set.1∧s=[mkO m.set.2]:=by
 have hk:=pick_range m.l m.pos 15 (by omega)
 have hd:(pick m.l m.pos 15).tdiv 2=pick m.l m.pos 15 / 2:=by rw[Int.tdiv_eq_ediv_of_nonneg hk.1]
 have w1:IntKind.i64.wrap (pick m.l m.pos 15 / 2)=pick m.l m.pos 15 / 2:=w64 _ (by omega)
 refine fn_ok func69 rfl ntmps69 results69 rfl 1 13 (by simp) (by simp) ?_
 simp only[zW,Nat.reduceShiftRight,Nat.reduceMod,Nat.reduceLT,Nat.reduceMul,Nat.reduceSub,Int.reduceToNat,Int.reduceNeg,Int.reduceLT,Int.reduceLE,Int.reduceEq,Nat.reduceEqDiff,Nat.reduceAdd,Nat.reduceLeDiff,reduceIte,reduceCtorEq,Nat.reduceBEq,i64,mkV]
 refine call_one (next_ok m hl hp 15 (by omega)) rfl rfl rfl rfl rfl rfl ?_
 have hc:pick m.l m.pos 15 / 2=0∨pick m.l m.pos 15 / 2=1∨pick m.l m.pos 15 / 2=2∨pick m.l m.pos 15 / 2=3∨pick m.l m.pos 15 / 2=4∨pick m.l m.pos 15 / 2=5∨pick m.l m.pos 15 / 2=6∨pick m.l m.pos 15 / 2=7:=by omega
 simp only[zW,Nat.reduceShiftRight,Nat.reduceMod,Nat.reduceLT,Nat.reduceMul,Nat.reduceSub,Int.reduceToNat,Int.reduceNeg,Int.reduceLT,Int.reduceLE,Int.reduceEq,Nat.reduceEqDiff,Nat.reduceAdd,Nat.reduceLeDiff,reduceIte,reduceCtorEq,Nat.reduceBEq,i64,mkV,Mk.next,hd,w1]
 rcases hc with hc | hc | hc | hc | hc | hc | hc | hc <;> (simp only[zW,Nat.reduceShiftRight,Nat.reduceMod,Nat.reduceLT,Nat.reduceMul,Nat.reduceSub,Int.reduceToNat,Int.reduceNeg,Int.reduceLT,Int.reduceLE,Int.reduceEq,Nat.reduceEqDiff,Nat.reduceAdd,Nat.reduceLeDiff,reduceIte,reduceCtorEq,Nat.reduceBEq,hc,Mk.set,Mk.next,setSpans,Re.ofSet,Int.toNat_zero,reV,Re.cells]; first | exact⟨by omega,rfl,rfl⟩ | exact⟨rfl,rfl⟩ | rfl)
mutual
def Re.nul:Re→Bool
 | .mk op _ kids mn _ _ _ _=>if op=1 then false else if op=2 then Re.nulAll kids else if op=3∨op=10 then Re.nulAny kids else if op=4 then decide (mn≤0)||Re.nul1 kids else if op=5∨op=9 then Re.nul1 kids else true
def Re.nulAll:List Re→Bool
 | []=>true
 | k::l=>k.nul&&Re.nulAll l
def Re.nulAny:List Re→Bool
 | []=>false
 | k::l=>k.nul||Re.nulAny l
def Re.nul1:List Re→Bool
 | []=>false
 | k::_=>k.nul
end
theorem Re.nul_eq (re:Re):re.nul=if re.op=1 then false else if re.op=2 then Re.nulAll re.kids else if re.op=3∨re.op=10 then Re.nulAny re.kids else if re.op=4 then decide (re.mn≤0)||Re.nul1 re.kids else if re.op=5∨re.op=9 then Re.nul1 re.kids else true:=by
 cases re; simp only[Re.nul,Re.op,Re.kids,Re.mn]; rfl
theorem Re.nulAll_all:∀l:List Re,Re.nulAll l=l.all Re.nul
 | []=>rfl
 | k::l=>by simp [Re.nulAll,Re.nulAll_all l]
theorem Re.nulAny_any:∀l:List Re,Re.nulAny l=l.any Re.nul
 | []=>rfl
 | k::l=>by simp [Re.nulAny,Re.nulAny_any l]
theorem mem_take_succ {α:Type} {l:List α} {i:Nat} {k x:α} (h:l[i]?=some k) (hx:x∈l.take (i + 1)):x∈l.take i∨x=k:=by
 rw[take_get h] at hx
 simpa using hx
theorem refNullable_ok (re:Re):re.size≤1000000000→PureOK prog 108 [reV re] (bV re.nul):=by
 induction re using Re.ind with
 | h re ih =>
 intro hs
 have hlen:=Re.len_le re.kids
 have hsz:=Re.size_eq re
 refine fn_ok func108 rfl ntmps108 results108 rfl 0 576460752336978015 (by simp) (by simp) ?_
 by_cases o1:re.op=1
 ·simp only[zW,Nat.reduceShiftRight,Nat.reduceMod,Nat.reduceLT,Nat.reduceMul,Nat.reduceSub,Int.reduceToNat,Int.reduceNeg,Int.reduceLT,Int.reduceLE,Int.reduceEq,Nat.reduceEqDiff,Nat.reduceAdd,Nat.reduceLeDiff,reduceIte,reduceCtorEq,Nat.reduceBEq,reV_eq re,iD,bD,bV,o1,Re.nul_eq re]
 by_cases o2:re.op=2
 ·simp only[zW,Nat.reduceShiftRight,Nat.reduceMod,Nat.reduceLT,Nat.reduceMul,Nat.reduceSub,Int.reduceToNat,Int.reduceNeg,Int.reduceLT,Int.reduceLE,Int.reduceEq,Nat.reduceEqDiff,Nat.reduceAdd,Nat.reduceLeDiff,reduceIte,reduceCtorEq,Nat.reduceBEq,reV_eq re,iD,bD,bV,o2]
  refine loop_rule (fun n e s=>∃i:Nat,n=re.kids.length - i∧i≤re.kids.length∧e 1=.rf 0 0 0 0∧e 3=i64 i∧(∀x∈re.kids.take i,x.nul=true)∧s=[⟨0,true,8,[re.cells.map .d]⟩]) ⟨_,_,_,Cln.refl,0,rfl,by simp,rfl,rfl,by simp,by simp [Re.cells_eq re,iD,bD,o2]⟩ ?_
  rintro n e s ⟨i,rfl,hi,h1,h3,hn,rfl⟩
  rcases Nat.lt_or_ge i re.kids.length with hlt | hge
  ·obtain⟨k,hk⟩:∃k,re.kids[i]?=some k:=⟨_,List.getElem?_eq_getElem hlt⟩
   have hm:=List.mem_of_getElem? hk
   have hks:=Re.size_kid hm
   simp only[zW,Nat.reduceShiftRight,Nat.reduceMod,Nat.reduceLT,Nat.reduceMul,Nat.reduceSub,Int.reduceToNat,Int.reduceNeg,Int.reduceLT,Int.reduceLE,Int.reduceEq,Nat.reduceEqDiff,Nat.reduceAdd,Nat.reduceLeDiff,reduceIte,reduceCtorEq,Nat.reduceBEq,Re.cells_eq re,iD,bD,h1,h3,i64,hlt,hk]
   refine call_pure (ih k hm (by omega)) (by simp [refsV,refsV.go,reV_eq,i64,bV,reEl]) (by simp [refsV,refsV.go,reV_eq,i64,bV,reEl]) ?_
   cases hkn:k.nul with
   | false =>
    simp only[zW,Nat.reduceShiftRight,Nat.reduceMod,Nat.reduceLT,Nat.reduceMul,Nat.reduceSub,Int.reduceToNat,Int.reduceNeg,Int.reduceLT,Int.reduceLE,Int.reduceEq,Nat.reduceEqDiff,Nat.reduceAdd,Nat.reduceLeDiff,reduceIte,reduceCtorEq,Nat.reduceBEq,bV,hkn]
    have:Re.nulAll re.kids=false:=by rw[Re.nulAll_all,List.all_eq_false]; exact⟨k,hm,by simp [hkn]⟩
    simp [Re.nul_eq re,o2,this]
   | true =>
    simp only[zW,Nat.reduceShiftRight,Nat.reduceMod,Nat.reduceLT,Nat.reduceMul,Nat.reduceSub,Int.reduceToNat,Int.reduceNeg,Int.reduceLT,Int.reduceLE,Int.reduceEq,Nat.reduceEqDiff,Nat.reduceAdd,Nat.reduceLeDiff,reduceIte,reduceCtorEq,Nat.reduceBEq,bV,hkn,h3,i64]
    refine⟨_,_,_,?_,Cln.refl,i + 1,rfl,hlt,?_⟩
    ·omega
    simp only[updE,Nat.reduceEqDiff,if_true,if_false]
    refine⟨h1,?_,fun x hx=>?_,by simp [Re.cells_eq re,iD,bD]⟩
    ·rw[w64 _ (by omega)]; rfl
    ·rcases mem_take_succ hk hx with h | rfl
     ·exact hn x h
     ·exact hkn
  ·have hie:i=re.kids.length:=by omega
   subst hie
   simp only[zW,Nat.reduceShiftRight,Nat.reduceMod,Nat.reduceLT,Nat.reduceMul,Nat.reduceSub,Int.reduceToNat,Int.reduceNeg,Int.reduceLT,Int.reduceLE,Int.reduceEq,Nat.reduceEqDiff,Nat.reduceAdd,Nat.reduceLeDiff,reduceIte,reduceCtorEq,Nat.reduceBEq,Re.cells_eq re,iD,bD,h1,h3,i64,Nat.lt_irrefl,bV]
   have:Re.nulAll re.kids=true:=by rw[Re.nulAll_all,List.all_eq_true]; simpa using hn
   simp [Re.nul_eq re,o2,this]
 by_cases o3:re.op=3∨re.op=10
 ·have hr:re.nul=Re.nulAny re.kids:=by simp [Re.nul_eq re,o1,o2,o3]
  rcases o3 with o3 | o3
  all_goals
   simp only[zW,Nat.reduceShiftRight,Nat.reduceMod,Nat.reduceLT,Nat.reduceMul,Nat.reduceSub,Int.reduceToNat,Int.reduceNeg,Int.reduceLT,Int.reduceLE,Int.reduceEq,Nat.reduceEqDiff,Nat.reduceAdd,Nat.reduceLeDiff,reduceIte,reduceCtorEq,Nat.reduceBEq,reV_eq re,iD,bD,bV,o1,o2,o3]
   refine loop_rule (fun n e s=>∃i:Nat,n=re.kids.length - i∧i≤re.kids.length∧e 1=.rf 0 0 0 0∧e 4=i64 i∧(∀x∈re.kids.take i,x.nul=false)∧s=[⟨0,true,8,[re.cells.map .d]⟩]) ⟨_,_,_,Cln.refl,0,rfl,by simp,rfl,rfl,by simp,by simp [Re.cells_eq re,iD,bD,o3]⟩ ?_
   rintro n e s ⟨i,rfl,hi,h1,h3,hn,rfl⟩
   rcases Nat.lt_or_ge i re.kids.length with hlt | hge
   ·obtain⟨k,hk⟩:∃k,re.kids[i]?=some k:=⟨_,List.getElem?_eq_getElem hlt⟩
    have hm:=List.mem_of_getElem? hk
    have hks:=Re.size_kid hm
    simp only[zW,Nat.reduceShiftRight,Nat.reduceMod,Nat.reduceLT,Nat.reduceMul,Nat.reduceSub,Int.reduceToNat,Int.reduceNeg,Int.reduceLT,Int.reduceLE,Int.reduceEq,Nat.reduceEqDiff,Nat.reduceAdd,Nat.reduceLeDiff,reduceIte,reduceCtorEq,Nat.reduceBEq,Re.cells_eq re,iD,bD,h1,h3,i64,hlt,hk]
    refine call_pure (ih k hm (by omega)) (by simp [refsV,refsV.go,reV_eq,i64,bV,reEl]) (by simp [refsV,refsV.go,reV_eq,i64,bV,reEl]) ?_
    cases hkn:k.nul with
    | true =>
     simp only[zW,Nat.reduceShiftRight,Nat.reduceMod,Nat.reduceLT,Nat.reduceMul,Nat.reduceSub,Int.reduceToNat,Int.reduceNeg,Int.reduceLT,Int.reduceLE,Int.reduceEq,Nat.reduceEqDiff,Nat.reduceAdd,Nat.reduceLeDiff,reduceIte,reduceCtorEq,Nat.reduceBEq,bV,hkn]
     have:Re.nulAny re.kids=true:=by rw[Re.nulAny_any,List.any_eq_true]; exact⟨k,hm,by simp [hkn]⟩
     simp [hr,this]
    | false =>
     simp only[zW,Nat.reduceShiftRight,Nat.reduceMod,Nat.reduceLT,Nat.reduceMul,Nat.reduceSub,Int.reduceToNat,Int.reduceNeg,Int.reduceLT,Int.reduceLE,Int.reduceEq,Nat.reduceEqDiff,Nat.reduceAdd,Nat.reduceLeDiff,reduceIte,reduceCtorEq,Nat.reduceBEq,bV,hkn,h3,i64]
     refine⟨_,_,_,?_,Cln.refl,i + 1,rfl,hlt,?_⟩
     ·omega
     simp only[updE,Nat.reduceEqDiff,if_true,if_false]
     refine⟨h1,?_,fun x hx=>?_,by simp [Re.cells_eq re,iD,bD]⟩
     ·rw[w64 _ (by omega)]; rfl
     ·rcases mem_take_succ hk hx with h | rfl
      ·exact hn x h
      ·exact hkn
   ·have hie:i=re.kids.length:=by omega
    subst hie
    simp only[zW,Nat.reduceShiftRight,Nat.reduceMod,Nat.reduceLT,Nat.reduceMul,Nat.reduceSub,Int.reduceToNat,Int.reduceNeg,Int.reduceLT,Int.reduceLE,Int.reduceEq,Nat.reduceEqDiff,Nat.reduceAdd,Nat.reduceLeDiff,reduceIte,reduceCtorEq,Nat.reduceBEq,Re.cells_eq re,iD,bD,h1,h3,i64,Nat.lt_irrefl,bV]
    have:Re.nulAny re.kids=false:=by rw[Re.nulAny_any,List.any_eq_false]; simpa using hn
    simp [hr,this]
 have o3':¬re.op=3:=fun h=>o3 (.inl h)
 have o10:¬re.op=10:=fun h=>o3 (.inr h)
 by_cases o4:re.op=4
 ·have hr:re.nul=(decide (re.mn≤0)||Re.nul1 re.kids):=by simp [Re.nul_eq re,o4]
  by_cases hmn:re.mn≤0
  ·simp only[zW,Nat.reduceShiftRight,Nat.reduceMod,Nat.reduceLT,Nat.reduceMul,Nat.reduceSub,Int.reduceToNat,Int.reduceNeg,Int.reduceLT,Int.reduceLE,Int.reduceEq,Nat.reduceEqDiff,Nat.reduceAdd,Nat.reduceLeDiff,reduceIte,reduceCtorEq,Nat.reduceBEq,reV_eq re,iD,bD,bV,o1,o2,o3',o10,o4,hmn]
   simp [hr,hmn]
  cases hk:re.kids with
  | nil =>
   simp only[zW,Nat.reduceShiftRight,Nat.reduceMod,Nat.reduceLT,Nat.reduceMul,Nat.reduceSub,Int.reduceToNat,Int.reduceNeg,Int.reduceLT,Int.reduceLE,Int.reduceEq,Nat.reduceEqDiff,Nat.reduceAdd,Nat.reduceLeDiff,reduceIte,reduceCtorEq,Nat.reduceBEq,reV_eq re,iD,bD,bV,o1,o2,o3',o10,o4,hmn,hk,List.map_nil]
   simp [hr,hmn,hk,Re.nul1]
  | cons k l =>
   have hm:k∈re.kids:=by simp [hk]
   have hks:=Re.size_kid hm
   have hpos:(0:Int) < ((l.length + 1:Nat):Int):=by omega
   simp only[zW,Nat.reduceShiftRight,Nat.reduceMod,Nat.reduceLT,Nat.reduceMul,Nat.reduceSub,Int.reduceToNat,Int.reduceNeg,Int.reduceLT,Int.reduceLE,Int.reduceEq,Nat.reduceEqDiff,Nat.reduceAdd,Nat.reduceLeDiff,reduceIte,reduceCtorEq,Nat.reduceBEq,reV_eq re,iD,bD,bV,o1,o2,o3',o10,o4,hmn,hk,List.map_cons,hpos]
   refine call_pure (ih k hm (by omega)) (by simp [refsV,refsV.go,reV_eq,i64,bV,reEl]) (by simp [refsV,refsV.go,reV_eq,i64,bV,reEl]) ?_
   cases hkn:k.nul with
   | true =>
    simp only[zW,Nat.reduceShiftRight,Nat.reduceMod,Nat.reduceLT,Nat.reduceMul,Nat.reduceSub,Int.reduceToNat,Int.reduceNeg,Int.reduceLT,Int.reduceLE,Int.reduceEq,Nat.reduceEqDiff,Nat.reduceAdd,Nat.reduceLeDiff,reduceIte,reduceCtorEq,Nat.reduceBEq,bV,hkn]
    simp [hr,hmn,hk,Re.nul1,hkn]
   | false =>
    simp only[zW,Nat.reduceShiftRight,Nat.reduceMod,Nat.reduceLT,Nat.reduceMul,Nat.reduceSub,Int.reduceToNat,Int.reduceNeg,Int.reduceLT,Int.reduceLE,Int.reduceEq,Nat.reduceEqDiff,Nat.reduceAdd,Nat.reduceLeDiff,reduceIte,reduceCtorEq,Nat.reduceBEq,bV,hkn]
    simp [hr,hmn,hk,Re.nul1,hkn]
 by_cases o5:re.op=5∨re.op=9
 ·have hr:re.nul=Re.nul1 re.kids:=by simp [Re.nul_eq re,o1,o2,o3,o4,o5]
  rcases o5 with o5 | o5
  all_goals
   cases hk:re.kids with
   | nil =>
    simp only[zW,Nat.reduceShiftRight,Nat.reduceMod,Nat.reduceLT,Nat.reduceMul,Nat.reduceSub,Int.reduceToNat,Int.reduceNeg,Int.reduceLT,Int.reduceLE,Int.reduceEq,Nat.reduceEqDiff,Nat.reduceAdd,Nat.reduceLeDiff,reduceIte,reduceCtorEq,Nat.reduceBEq,reV_eq re,iD,bD,bV,o1,o2,o3',o10,o4,o5,hk,List.map_nil]
    simp [hr,hk,Re.nul1]
   | cons k l =>
    have hm:k∈re.kids:=by simp [hk]
    have hks:=Re.size_kid hm
    have hpos:(0:Int) < ((l.length + 1:Nat):Int):=by omega
    simp only[zW,Nat.reduceShiftRight,Nat.reduceMod,Nat.reduceLT,Nat.reduceMul,Nat.reduceSub,Int.reduceToNat,Int.reduceNeg,Int.reduceLT,Int.reduceLE,Int.reduceEq,Nat.reduceEqDiff,Nat.reduceAdd,Nat.reduceLeDiff,reduceIte,reduceCtorEq,Nat.reduceBEq,reV_eq re,iD,bD,bV,o1,o2,o3',o10,o4,o5,hk,List.map_cons,hpos]
    refine call_pure (ih k hm (by omega)) (by simp [refsV,refsV.go,reV_eq,i64,bV,reEl]) (by simp [refsV,refsV.go,reV_eq,i64,bV,reEl]) ?_
    cases hkn:k.nul with
    | true =>
     simp only[zW,Nat.reduceShiftRight,Nat.reduceMod,Nat.reduceLT,Nat.reduceMul,Nat.reduceSub,Int.reduceToNat,Int.reduceNeg,Int.reduceLT,Int.reduceLE,Int.reduceEq,Nat.reduceEqDiff,Nat.reduceAdd,Nat.reduceLeDiff,reduceIte,reduceCtorEq,Nat.reduceBEq,bV,hkn]
     simp [hr,hk,Re.nul1,hkn]
    | false =>
     simp only[zW,Nat.reduceShiftRight,Nat.reduceMod,Nat.reduceLT,Nat.reduceMul,Nat.reduceSub,Int.reduceToNat,Int.reduceNeg,Int.reduceLT,Int.reduceLE,Int.reduceEq,Nat.reduceEqDiff,Nat.reduceAdd,Nat.reduceLeDiff,reduceIte,reduceCtorEq,Nat.reduceBEq,bV,hkn]
     simp [hr,hk,Re.nul1,hkn]
 have o5':¬re.op=5:=fun h=>o5 (.inl h)
 have o9:¬re.op=9:=fun h=>o5 (.inr h)
 simp only[zW,Nat.reduceShiftRight,Nat.reduceMod,Nat.reduceLT,Nat.reduceMul,Nat.reduceSub,Int.reduceToNat,Int.reduceNeg,Int.reduceLT,Int.reduceLE,Int.reduceEq,Nat.reduceEqDiff,Nat.reduceAdd,Nat.reduceLeDiff,reduceIte,reduceCtorEq,Nat.reduceBEq,reV_eq re,iD,bD,bV,o1,o2,o3',o10,o4,o5',o9]
 simp [Re.nul_eq re,o1,o2,o3,o4,o5]
def lplus (a b:Int):Int:=if a < 0∨b < 0 then -1 else min (IntKind.i64.wrap (a + b)) 1000000
def lgreater (a b:Int):Int:=if a < 0∨b < 0 then -1 else max a b
def ltimes (a b:Int):Int:=if a=0∨b=0 then 0 else if a < 0∨b < 0 then -1 else min (IntKind.i64.wrap (a * b)) 1000000
theorem plus_ok (a b:Int):PureOK prog 75 [i64 a,i64 b] (i64 (lplus a b)):=by
 refine fn_ok func75 rfl ntmps75 results75 rfl 0 19 (by simp) (by simp) ?_
 by_cases ha:a < 0
 ·simp only[zW,Nat.reduceShiftRight,Nat.reduceMod,Nat.reduceLT,Nat.reduceMul,Nat.reduceSub,Int.reduceToNat,Int.reduceNeg,Int.reduceLT,Int.reduceLE,Int.reduceEq,Nat.reduceEqDiff,Nat.reduceAdd,Nat.reduceLeDiff,reduceIte,reduceCtorEq,Nat.reduceBEq,i64,ha]
  simp [lplus,ha]
 ·by_cases hb:b < 0
  ·simp only[zW,Nat.reduceShiftRight,Nat.reduceMod,Nat.reduceLT,Nat.reduceMul,Nat.reduceSub,Int.reduceToNat,Int.reduceNeg,Int.reduceLT,Int.reduceLE,Int.reduceEq,Nat.reduceEqDiff,Nat.reduceAdd,Nat.reduceLeDiff,reduceIte,reduceCtorEq,Nat.reduceBEq,i64,ha,hb]
   simp [lplus,ha,hb]
  ·simp only[zW,Nat.reduceShiftRight,Nat.reduceMod,Nat.reduceLT,Nat.reduceMul,Nat.reduceSub,Int.reduceToNat,Int.reduceNeg,Int.reduceLT,Int.reduceLE,Int.reduceEq,Nat.reduceEqDiff,Nat.reduceAdd,Nat.reduceLeDiff,reduceIte,reduceCtorEq,Nat.reduceBEq,i64,ha,hb]
   simp [lplus,ha,hb]
theorem greater_ok (a b:Int):PureOK prog 76 [i64 a,i64 b] (i64 (lgreater a b)):=by
 refine fn_ok func76 rfl ntmps76 results76 rfl 0 19 (by simp) (by simp) ?_
 by_cases ha:a < 0
 ·simp only[zW,Nat.reduceShiftRight,Nat.reduceMod,Nat.reduceLT,Nat.reduceMul,Nat.reduceSub,Int.reduceToNat,Int.reduceNeg,Int.reduceLT,Int.reduceLE,Int.reduceEq,Nat.reduceEqDiff,Nat.reduceAdd,Nat.reduceLeDiff,reduceIte,reduceCtorEq,Nat.reduceBEq,i64,ha]
  simp [lgreater,ha]
 ·by_cases hb:b < 0
  ·simp only[zW,Nat.reduceShiftRight,Nat.reduceMod,Nat.reduceLT,Nat.reduceMul,Nat.reduceSub,Int.reduceToNat,Int.reduceNeg,Int.reduceLT,Int.reduceLE,Int.reduceEq,Nat.reduceEqDiff,Nat.reduceAdd,Nat.reduceLeDiff,reduceIte,reduceCtorEq,Nat.reduceBEq,i64,ha,hb]
   simp [lgreater,ha,hb]
  ·simp only[zW,Nat.reduceShiftRight,Nat.reduceMod,Nat.reduceLT,Nat.reduceMul,Nat.reduceSub,Int.reduceToNat,Int.reduceNeg,Int.reduceLT,Int.reduceLE,Int.reduceEq,Nat.reduceEqDiff,Nat.reduceAdd,Nat.reduceLeDiff,reduceIte,reduceCtorEq,Nat.reduceBEq,i64,ha,hb]
   simp [lgreater,ha,hb]
theorem times_ok (a b:Int):PureOK prog 77 [i64 a,i64 b] (i64 (ltimes a b)):=by
 refine fn_ok func77 rfl ntmps77 results77 rfl 0 19 (by simp) (by simp) ?_
 by_cases ha0:a=0
 ·simp only[zW,Nat.reduceShiftRight,Nat.reduceMod,Nat.reduceLT,Nat.reduceMul,Nat.reduceSub,Int.reduceToNat,Int.reduceNeg,Int.reduceLT,Int.reduceLE,Int.reduceEq,Nat.reduceEqDiff,Nat.reduceAdd,Nat.reduceLeDiff,reduceIte,reduceCtorEq,Nat.reduceBEq,i64,ha0]
  simp [ltimes,ha0]
 by_cases hb0:b=0
 ·simp only[zW,Nat.reduceShiftRight,Nat.reduceMod,Nat.reduceLT,Nat.reduceMul,Nat.reduceSub,Int.reduceToNat,Int.reduceNeg,Int.reduceLT,Int.reduceLE,Int.reduceEq,Nat.reduceEqDiff,Nat.reduceAdd,Nat.reduceLeDiff,reduceIte,reduceCtorEq,Nat.reduceBEq,i64,ha0,hb0]
  simp [ltimes,ha0,hb0]
 by_cases ha:a < 0
 ·simp only[zW,Nat.reduceShiftRight,Nat.reduceMod,Nat.reduceLT,Nat.reduceMul,Nat.reduceSub,Int.reduceToNat,Int.reduceNeg,Int.reduceLT,Int.reduceLE,Int.reduceEq,Nat.reduceEqDiff,Nat.reduceAdd,Nat.reduceLeDiff,reduceIte,reduceCtorEq,Nat.reduceBEq,i64,ha0,hb0,ha]
  simp [ltimes,ha0,hb0,ha]
 ·by_cases hb:b < 0
  ·simp only[zW,Nat.reduceShiftRight,Nat.reduceMod,Nat.reduceLT,Nat.reduceMul,Nat.reduceSub,Int.reduceToNat,Int.reduceNeg,Int.reduceLT,Int.reduceLE,Int.reduceEq,Nat.reduceEqDiff,Nat.reduceAdd,Nat.reduceLeDiff,reduceIte,reduceCtorEq,Nat.reduceBEq,i64,ha0,hb0,ha,hb]
   simp [ltimes,ha0,hb0,ha,hb]
  ·simp only[zW,Nat.reduceShiftRight,Nat.reduceMod,Nat.reduceLT,Nat.reduceMul,Nat.reduceSub,Int.reduceToNat,Int.reduceNeg,Int.reduceLT,Int.reduceLE,Int.reduceEq,Nat.reduceEqDiff,Nat.reduceAdd,Nat.reduceLeDiff,reduceIte,reduceCtorEq,Nat.reduceBEq,i64,ha0,hb0,ha,hb]
   simp [ltimes,ha0,hb0,ha,hb]
def catL (l:List (Int × Int)):Int × Int:=l.foldl (fun a k=>(lplus a.1 k.1,lplus a.2 k.2)) (0,0)
def altF (a k:Int × Int):Int × Int:=(min a.1 k.1,lgreater a.2 k.2)
def altL:List (Int × Int)→Int × Int
 | []=>(0,0)
 | k::l=>l.foldl altF (altF k k)
theorem catL_snoc (l:List (Int × Int)) (k:Int × Int):catL (l++[k])=(lplus (catL l).1 k.1,lplus (catL l).2 k.2):=by
 simp [catL,List.foldl_append]
theorem altL_one (k:Int × Int):altL [k]=altF k k:=rfl
theorem altL_snoc {l:List (Int × Int)} (h:l≠[]) (k:Int × Int):altL (l++[k])=altF (altL l) k:=by
 cases l with
 | nil=>exact absurd rfl h
 | cons x l=>simp [altL,List.foldl_append]
def lensOp (op mn mx:Int) (l:List (Int × Int)):Int × Int :=
 if op=1 then (1,1)
 else if op=6 then (0,-1)
 else if op=2 then catL l
 else if op=3∨op=10∨op=4∨op=5∨op=9 then
  (if op=4 then (ltimes (altL l).1 mn,ltimes (altL l).2 mx) else altL l)
 else (0,0)
mutual
def Re.lens:Re→Int × Int
 | .mk op _ kids mn mx _ _ _=>lensOp op mn mx (Re.lensL kids)
def Re.lensL:List Re→List (Int × Int)
 | []=>[]
 | k::l=>k.lens::Re.lensL l
end
theorem Re.lensL_eq:∀l:List Re,Re.lensL l=l.map Re.lens
 | []=>by simp [Re.lensL]
 | k::l=>by simp [Re.lensL,Re.lensL_eq l]
theorem Re.lens_eq (re:Re):re.lens=lensOp re.op re.mn re.mx (re.kids.map Re.lens):=by
 cases re; simp [Re.lens,Re.lensL_eq,Re.op,Re.mn,Re.mx,Re.kids]
def cellO (f:FuncId):VL.Obj:=⟨0,true,1,[[.cl (.func f) [] [.rf 0 0 0 0]]]⟩
mutual
def Re.fine:Re→Bool
 | .mk _ set kids _ _ _ _ _=>decide (set.length≤1000000000)&&(decide (kids.length≤1000000000)&&Re.fineL kids)
def Re.fineL:List Re→Bool
 | []=>true
 | k::l=>k.fine&&Re.fineL l
end
theorem Re.fineL_all:∀l:List Re,Re.fineL l=l.all Re.fine
 | []=>rfl
 | k::l=>by simp [Re.fineL,Re.fineL_all l]
theorem Re.fine_iff (re:Re):re.fine=true ↔ re.set.length≤1000000000∧re.kids.length≤1000000000∧∀k∈re.kids,k.fine=true:=by
 cases re with
 | mk op set kids mn mx mode n neg=>simp only[Re.fine,Bool.and_eq_true,decide_eq_true_eq,Re.fineL_all,List.all_eq_true,Re.set,Re.kids]
theorem Re.fine_spec {re:Re} (h:re.fine=true):re.set.length≤1000000000∧re.kids.length≤1000000000∧∀k∈re.kids,k.fine=true:=(Re.fine_iff re).1 h
def anulOp (op mn:Int) (l:List Bool):Bool :=
 if op=0∨op=6∨op=7∨op=8∨op=11 then true
 else if op=2 then l.all id
 else if op=4 then (if mn=0 then true else l.any id)
 else if op=3∨op=10∨op=5∨op=9 then l.any id
 else false
mutual
def Re.anul:Re→Bool
 | .mk op _ kids mn _ _ _ _=>anulOp op mn (Re.anulL kids)
def Re.anulL:List Re→List Bool
 | []=>[]
 | k::l=>k.anul::Re.anulL l
end
theorem Re.anulL_eq:∀l:List Re,Re.anulL l=l.map Re.anul
 | []=>by simp [Re.anulL]
 | k::l=>by simp [Re.anulL,Re.anulL_eq l]
theorem Re.anul_eq (re:Re):re.anul=anulOp re.op re.mn (re.kids.map Re.anul):=by
 cases re; simp [Re.anul,Re.anulL_eq,Re.op,Re.mn,Re.kids]
def NulOK (re:Re):Prop:=callWp prog 144 [reEl re,.rf 0 0 0 0] [cellO 144] fun v s=>v=bV re.anul∧s=[cellO 144]
theorem nul_cat (re:Re) (ih:∀k∈re.kids,k.fine=true→NulOK k) (hs:re.fine=true) (o2:re.op=2):NulOK re:=by
 obtain⟨hset1,hlen,hfk⟩:=Re.fine_spec hs
 have hle:re.anul=(re.kids.map Re.anul).all id:=by rw[Re.anul_eq,o2]; rfl
 unfold NulOK
 rw[hle]
 refine fn_ok func144 rfl ntmps144 results144 rfl 1 13519594987718203 (by simp) (by simp) ?_
 simp only[zW,Nat.reduceShiftRight,Nat.reduceMod,Nat.reduceLT,Nat.reduceMul,Nat.reduceSub,Int.reduceToNat,Int.reduceNeg,Int.reduceLT,Int.reduceLE,Int.reduceEq,Nat.reduceEqDiff,Nat.reduceAdd,Nat.reduceLeDiff,reduceIte,reduceCtorEq,Nat.reduceBEq,i64,reEl,Re.cells_eq re,iD,bD,o2,cellO]
 refine loop_rule (fun n e s=>∃i:Nat,n=re.kids.length - i∧i≤re.kids.length∧e 0=reEl re∧e 1=.rf 0 0 0 0∧(∀x∈re.kids.take i,x.anul=true)∧e 22=i64 re.kids.length∧e 23=i64 i∧s=[cellO 144])
  ⟨_,_,_,Cln.refl,0,rfl,by omega,by simp [reEl,Re.cells_eq re,iD,bD,o2]; rfl,rfl,by simp,rfl,rfl,rfl⟩ ?_
 rintro n e s ⟨i,rfl,hi,h0,h1,hall,h22,h23,rfl⟩
 rcases Nat.lt_or_ge i re.kids.length with hlt | hge
 ·obtain⟨k,hk⟩:∃k,re.kids[i]?=some k:=⟨_,List.getElem?_eq_getElem hlt⟩
  have hm:=List.mem_of_getElem? hk
  have hks:=hfk k hm
  simp only[zW,Nat.reduceShiftRight,Nat.reduceMod,Nat.reduceLT,Nat.reduceMul,Nat.reduceSub,Int.reduceToNat,Int.reduceNeg,Int.reduceLT,Int.reduceLE,Int.reduceEq,Nat.reduceEqDiff,Nat.reduceAdd,Nat.reduceLeDiff,reduceIte,reduceCtorEq,Nat.reduceBEq,h0,h1,h22,h23,i64,hlt,cellO]
  refine draw_c mix [] [(0,[0],[]),(7,[0],[0])] (by rfl) ?_
  simp only[zW,Nat.reduceShiftRight,Nat.reduceMod,Nat.reduceLT,Nat.reduceMul,Nat.reduceSub,Int.reduceToNat,Int.reduceNeg,Int.reduceLT,Int.reduceLE,Int.reduceEq,Nat.reduceEqDiff,Nat.reduceAdd,Nat.reduceLeDiff,reduceIte,reduceCtorEq,Nat.reduceBEq,h0,h1,h22,h23,i64,hlt,hk,reEl,Re.cells_eq re,iD,bD]
  refine callF_one (ih k hm hks) rfl rfl rfl rfl rfl rfl ?_
  cases hkn:k.anul with
  | true =>
   simp only[zW,Nat.reduceShiftRight,Nat.reduceMod,Nat.reduceLT,Nat.reduceMul,Nat.reduceSub,Int.reduceToNat,Int.reduceNeg,Int.reduceLT,Int.reduceLE,Int.reduceEq,Nat.reduceEqDiff,Nat.reduceAdd,Nat.reduceLeDiff,reduceIte,reduceCtorEq,Nat.reduceBEq,h0,h1,h22,h23,i64,cellO,bV,hkn]
   refine⟨re.kids.length - (i + 1),_,_,by omega,Cln.refl,i + 1,rfl,hlt,?_,?_,?_,?_,?_,rfl⟩ <;> (try simp only[zU,Nat.reduceBEq,Nat.reduceShiftRight,Nat.reduceMod,Nat.reduceEqDiff,reduceIte])
   ·simpa [reEl,Re.cells_eq re,iD,bD] using h0
   ·exact h1
   ·intro x hx
    rw[take_get hk] at hx
    rcases List.mem_append.1 hx with hx | hx
    ·exact hall x hx
    ·rw[List.mem_singleton.1 hx]; exact hkn
   ·exact h22
   ·rw[w64 _ (by omega)]; rfl
  | false =>
   simp only[zW,Nat.reduceShiftRight,Nat.reduceMod,Nat.reduceLT,Nat.reduceMul,Nat.reduceSub,Int.reduceToNat,Int.reduceNeg,Int.reduceLT,Int.reduceLE,Int.reduceEq,Nat.reduceEqDiff,Nat.reduceAdd,Nat.reduceLeDiff,reduceIte,reduceCtorEq,Nat.reduceBEq,h0,h1,h22,h23,i64,cellO,bV,hkn]
   have:(re.kids.map Re.anul).all id=false:=by rw[List.all_eq_false]; exact⟨false,List.mem_map.2 ⟨k,hm,hkn⟩,by simp⟩
   rw[this]
   all_goals first | exact⟨rfl,rfl⟩ | exact⟨rfl,trivial⟩ | rfl | trivial | (rw[reV_eq]; rfl)
 ·have hie:i=re.kids.length:=by omega
  subst hie
  rw[List.take_length] at hall
  have:(re.kids.map Re.anul).all id=true:=by rw[List.all_eq_true]; intro x hx; obtain⟨y,hy,rfl⟩:=List.mem_map.1 hx; exact hall y hy
  rw[this]
  simp only[zW,Nat.reduceShiftRight,Nat.reduceMod,Nat.reduceLT,Nat.reduceMul,Nat.reduceSub,Int.reduceToNat,Int.reduceNeg,Int.reduceLT,Int.reduceLE,Int.reduceEq,Nat.reduceEqDiff,Nat.reduceAdd,Nat.reduceLeDiff,reduceIte,reduceCtorEq,Nat.reduceBEq,h0,h1,h22,h23,i64,cellO,Nat.lt_irrefl,bV]
  all_goals first | exact⟨rfl,rfl⟩ | exact⟨rfl,trivial⟩ | rfl | trivial | (rw[reV_eq]; rfl)
theorem nul_any (re:Re) (ih:∀k∈re.kids,k.fine=true→NulOK k) (hs:re.fine=true) (o:(re.op=4∧¬re.mn=0)∨re.op=3∨re.op=10∨re.op=5∨re.op=9):NulOK re:=by
 obtain⟨hset1,hlen,hfk⟩:=Re.fine_spec hs
 have hle:re.anul=(re.kids.map Re.anul).any id:=by
  rw[Re.anul_eq]; rcases o with ⟨o,om⟩ | o | o | o | o <;> rw[o]
  ·simp [anulOp,om]
  all_goals rfl
 unfold NulOK
 rw[hle]
 obtain⟨o2,om⟩:(re.op=4∨re.op=3∨re.op=10∨re.op=5∨re.op=9)∧(re.op=4→¬re.mn=0):=by
  rcases o with ⟨o,om⟩ | o | o | o | o <;> simp [o] <;> exact om
 rcases o2 with o2 | o2 | o2 | o2 | o2
 all_goals
  refine fn_ok func144 rfl ntmps144 results144 rfl 1 13519594987718203 (by simp) (by simp) ?_
  simp only[zW,Nat.reduceShiftRight,Nat.reduceMod,Nat.reduceLT,Nat.reduceMul,Nat.reduceSub,Int.reduceToNat,Int.reduceNeg,Int.reduceLT,Int.reduceLE,Int.reduceEq,Nat.reduceEqDiff,Nat.reduceAdd,Nat.reduceLeDiff,reduceIte,reduceCtorEq,Nat.reduceBEq,i64,reEl,Re.cells_eq re,iD,bD,o2,om,cellO]
  refine loop_rule (fun n e s=>∃i:Nat,n=re.kids.length - i∧i≤re.kids.length∧e 0=reEl re∧e 1=.rf 0 0 0 0∧(∀x∈re.kids.take i,x.anul=false)∧e 52=i64 re.kids.length∧e 53=i64 i∧s=[cellO 144])
   ⟨_,_,_,Cln.refl,0,rfl,by omega,by simp [reEl,Re.cells_eq re,iD,bD,o2]; rfl,rfl,by simp,rfl,rfl,rfl⟩ ?_
  rintro n e s ⟨i,rfl,hi,h0,h1,hall,h22,h23,rfl⟩
  rcases Nat.lt_or_ge i re.kids.length with hlt | hge
  ·obtain⟨k,hk⟩:∃k,re.kids[i]?=some k:=⟨_,List.getElem?_eq_getElem hlt⟩
   have hm:=List.mem_of_getElem? hk
   have hks:=hfk k hm
   simp only[zW,Nat.reduceShiftRight,Nat.reduceMod,Nat.reduceLT,Nat.reduceMul,Nat.reduceSub,Int.reduceToNat,Int.reduceNeg,Int.reduceLT,Int.reduceLE,Int.reduceEq,Nat.reduceEqDiff,Nat.reduceAdd,Nat.reduceLeDiff,reduceIte,reduceCtorEq,Nat.reduceBEq,h0,h1,h22,h23,i64,hlt,cellO]
   refine draw_c mix [] [(0,[0],[]),(7,[0],[0])] (by rfl) ?_
   simp only[zW,Nat.reduceShiftRight,Nat.reduceMod,Nat.reduceLT,Nat.reduceMul,Nat.reduceSub,Int.reduceToNat,Int.reduceNeg,Int.reduceLT,Int.reduceLE,Int.reduceEq,Nat.reduceEqDiff,Nat.reduceAdd,Nat.reduceLeDiff,reduceIte,reduceCtorEq,Nat.reduceBEq,h0,h1,h22,h23,i64,hlt,hk,reEl,Re.cells_eq re,iD,bD]
   refine callF_one (ih k hm hks) rfl rfl rfl rfl rfl rfl ?_
   cases hkn:k.anul with
   | false =>
    simp only[zW,Nat.reduceShiftRight,Nat.reduceMod,Nat.reduceLT,Nat.reduceMul,Nat.reduceSub,Int.reduceToNat,Int.reduceNeg,Int.reduceLT,Int.reduceLE,Int.reduceEq,Nat.reduceEqDiff,Nat.reduceAdd,Nat.reduceLeDiff,reduceIte,reduceCtorEq,Nat.reduceBEq,h0,h1,h22,h23,i64,cellO,bV,hkn]
    refine⟨re.kids.length - (i + 1),_,_,by omega,Cln.refl,i + 1,rfl,hlt,?_,?_,?_,?_,?_,rfl⟩ <;> (try simp only[zU,Nat.reduceBEq,Nat.reduceShiftRight,Nat.reduceMod,Nat.reduceEqDiff,reduceIte])
    ·simpa [reEl,Re.cells_eq re,iD,bD,o2] using h0
    ·exact h1
    ·intro x hx
     rw[take_get hk] at hx
     rcases List.mem_append.1 hx with hx | hx
     ·exact hall x hx
     ·rw[List.mem_singleton.1 hx]; exact hkn
    ·exact h22
    ·rw[w64 _ (by omega)]; rfl
   | true =>
    simp only[zW,Nat.reduceShiftRight,Nat.reduceMod,Nat.reduceLT,Nat.reduceMul,Nat.reduceSub,Int.reduceToNat,Int.reduceNeg,Int.reduceLT,Int.reduceLE,Int.reduceEq,Nat.reduceEqDiff,Nat.reduceAdd,Nat.reduceLeDiff,reduceIte,reduceCtorEq,Nat.reduceBEq,h0,h1,h22,h23,i64,cellO,bV,hkn]
    have:(re.kids.map Re.anul).any id=true:=by rw[List.any_eq_true]; exact⟨true,List.mem_map.2 ⟨k,hm,hkn⟩,by simp⟩
    rw[this]
    all_goals first | exact⟨rfl,rfl⟩ | exact⟨rfl,trivial⟩ | rfl | trivial | (rw[reV_eq]; rfl)
  ·have hie:i=re.kids.length:=by omega
   subst hie
   rw[List.take_length] at hall
   have:(re.kids.map Re.anul).any id=false:=by rw[List.any_eq_false]; intro x hx; obtain⟨y,hy,rfl⟩:=List.mem_map.1 hx; simp [hall y hy]
   rw[this]
   simp only[zW,Nat.reduceShiftRight,Nat.reduceMod,Nat.reduceLT,Nat.reduceMul,Nat.reduceSub,Int.reduceToNat,Int.reduceNeg,Int.reduceLT,Int.reduceLE,Int.reduceEq,Nat.reduceEqDiff,Nat.reduceAdd,Nat.reduceLeDiff,reduceIte,reduceCtorEq,Nat.reduceBEq,h0,h1,h22,h23,i64,cellO,Nat.lt_irrefl,bV]
   all_goals first | exact⟨rfl,rfl⟩ | exact⟨rfl,trivial⟩ | rfl | trivial | (rw[reV_eq]; rfl)
theorem nul_leaf (re:Re) (o1:¬re.op=2) (o2:¬re.op=3) (o3:¬re.op=10) (o4:re.op=4→re.mn=0) (o5:¬re.op=5) (o6:¬re.op=9):NulOK re:=by
 unfold NulOK
 by_cases p4:re.op=4
 ·have hle:re.anul=true:=by rw[Re.anul_eq,p4,o4 p4]; rfl
  rw[hle]
  have pm:=o4 p4
  refine fn_ok func144 rfl ntmps144 results144 rfl 1 13519594987718203 (by simp) (by simp) ?_
  simp only[zW,Nat.reduceShiftRight,Nat.reduceMod,Nat.reduceLT,Nat.reduceMul,Nat.reduceSub,Int.reduceToNat,Int.reduceNeg,Int.reduceLT,Int.reduceLE,Int.reduceEq,Nat.reduceEqDiff,Nat.reduceAdd,Nat.reduceLeDiff,reduceIte,reduceCtorEq,Nat.reduceBEq,i64,reEl,Re.cells_eq re,iD,bD,p4,pm,cellO,bV]
  all_goals first | exact⟨rfl,rfl⟩ | exact⟨rfl,trivial⟩ | rfl | trivial | (rw[reV_eq]; rfl)
 by_cases p:re.op=0∨re.op=6∨re.op=7∨re.op=8∨re.op=11
 ·have hle:re.anul=true:=by rw[Re.anul_eq]; simp [anulOp,p]
  rw[hle]
  rcases p with p | p | p | p | p
  all_goals
   refine fn_ok func144 rfl ntmps144 results144 rfl 1 13519594987718203 (by simp) (by simp) ?_
   simp only[zW,Nat.reduceShiftRight,Nat.reduceMod,Nat.reduceLT,Nat.reduceMul,Nat.reduceSub,Int.reduceToNat,Int.reduceNeg,Int.reduceLT,Int.reduceLE,Int.reduceEq,Nat.reduceEqDiff,Nat.reduceAdd,Nat.reduceLeDiff,reduceIte,reduceCtorEq,Nat.reduceBEq,i64,reEl,Re.cells_eq re,iD,bD,p,cellO,bV]
   all_goals first | exact⟨rfl,rfl⟩ | exact⟨rfl,trivial⟩ | rfl | trivial | (rw[reV_eq]; rfl)
 have hle:re.anul=false:=by rw[Re.anul_eq]; simp [anulOp,p,o1,o2,o3,p4,o5,o6]
 rw[hle]
 have p0:¬re.op=0:=fun h=>p (.inl h)
 have p6:¬re.op=6:=fun h=>p (.inr (.inl h))
 have p7:¬re.op=7:=fun h=>p (.inr (.inr (.inl h)))
 have p8:¬re.op=8:=fun h=>p (.inr (.inr (.inr (.inl h))))
 have p11:¬re.op=11:=fun h=>p (.inr (.inr (.inr (.inr h))))
 refine fn_ok func144 rfl ntmps144 results144 rfl 1 13519594987718203 (by simp) (by simp) ?_
 simp only[zW,Nat.reduceShiftRight,Nat.reduceMod,Nat.reduceLT,Nat.reduceMul,Nat.reduceSub,Int.reduceToNat,Int.reduceNeg,Int.reduceLT,Int.reduceLE,Int.reduceEq,Nat.reduceEqDiff,Nat.reduceAdd,Nat.reduceLeDiff,reduceIte,reduceCtorEq,Nat.reduceBEq,i64,reEl,Re.cells_eq re,iD,bD,o1,o2,o3,p4,o5,o6,p0,p6,p7,p8,p11,cellO,bV]
 all_goals first | exact⟨rfl,rfl⟩ | exact⟨rfl,trivial⟩ | rfl | trivial | (rw[reV_eq]; rfl)
theorem nul_rec (re:Re) (hs:re.fine=true):NulOK re:=by
 revert hs
 refine Re.ind (Q:=fun re=>re.fine=true→NulOK re) (fun re ih hs=>?_) re
 by_cases o2:re.op=2
 ·exact nul_cat re ih hs o2
 by_cases o:(re.op=4∧¬re.mn=0)∨re.op=3∨re.op=10∨re.op=5∨re.op=9
 ·exact nul_any re ih hs o
 ·exact nul_leaf re o2 (fun h=>o (.inr (.inl h))) (fun h=>o (.inr (.inr (.inl h)))) (fun h=>by by_cases hm:re.mn=0; exact hm; exact absurd (.inl ⟨h,hm⟩) o) (fun h=>o (.inr (.inr (.inr (.inl h))))) (fun h=>o (.inr (.inr (.inr (.inr h)))))
theorem nullable_ok (re:Re) (hs:re.fine=true):PureOK prog 109 [reV re] (bV re.anul):=by
 refine fn_ok func109 rfl ntmps109 results109 rfl 0 15 (by simp) (by simp) ?_
 simp only[zW,Nat.reduceShiftRight,Nat.reduceMod,Nat.reduceLT,Nat.reduceMul,Nat.reduceSub,Int.reduceToNat,Int.reduceNeg,Int.reduceLT,Int.reduceLE,Int.reduceEq,Nat.reduceEqDiff,Nat.reduceAdd,Nat.reduceLeDiff,reduceIte,reduceCtorEq,Nat.reduceBEq,i64,reV_eq re,iD,bD]
 refine call_give [0] rfl ?_
 refine call_at (r':=bV re.anul) 1 (nul_rec re hs) (by rw[reEl,Re.cells_eq]; rfl) rfl rfl rfl rfl ?_
 simp only[zW,Nat.reduceShiftRight,Nat.reduceMod,Nat.reduceLT,Nat.reduceMul,Nat.reduceSub,Int.reduceToNat,Int.reduceNeg,Int.reduceLT,Int.reduceLE,Int.reduceEq,Nat.reduceEqDiff,Nat.reduceAdd,Nat.reduceLeDiff,reduceIte,reduceCtorEq,Nat.reduceBEq,i64,killO,kill1,renO,renV,renV.go,cellO,bV]
 all_goals first | exact⟨rfl,rfl⟩ | exact⟨rfl,trivial⟩ | rfl | trivial | (rw[reV_eq]; rfl)
def Re.kept (re:Re):Bool:=decide (re.mn=0)&&(decide (re.mx=-1)||decide (re.mx=1))
theorem kept_ok (re:Re):PureOK prog 81 [reEl re] (bV re.kept):=by
 refine fn_ok func81 rfl ntmps81 results81 rfl 0 5 (by simp) (by simp) ?_
 by_cases h1:re.mn=0
 ·by_cases h2:re.mx=-1
  ·simp only[zW,Nat.reduceShiftRight,Nat.reduceMod,Nat.reduceLT,Nat.reduceMul,Nat.reduceSub,Int.reduceToNat,Int.reduceNeg,Int.reduceLT,Int.reduceLE,Int.reduceEq,Nat.reduceEqDiff,Nat.reduceAdd,Nat.reduceLeDiff,reduceIte,reduceCtorEq,Nat.reduceBEq,i64,reEl,Re.cells_eq re,iD,bD,h1,h2]
   simp [Re.kept,h1,h2,bV]
  ·by_cases h3:re.mx=1
   ·simp only[zW,Nat.reduceShiftRight,Nat.reduceMod,Nat.reduceLT,Nat.reduceMul,Nat.reduceSub,Int.reduceToNat,Int.reduceNeg,Int.reduceLT,Int.reduceLE,Int.reduceEq,Nat.reduceEqDiff,Nat.reduceAdd,Nat.reduceLeDiff,reduceIte,reduceCtorEq,Nat.reduceBEq,i64,reEl,Re.cells_eq re,iD,bD,h1,h2,h3]
    simp [Re.kept,h1,h3,bV]
   ·simp only[zW,Nat.reduceShiftRight,Nat.reduceMod,Nat.reduceLT,Nat.reduceMul,Nat.reduceSub,Int.reduceToNat,Int.reduceNeg,Int.reduceLT,Int.reduceLE,Int.reduceEq,Nat.reduceEqDiff,Nat.reduceAdd,Nat.reduceLeDiff,reduceIte,reduceCtorEq,Nat.reduceBEq,i64,reEl,Re.cells_eq re,iD,bD,h1,h2,h3]
    simp [Re.kept,h1,h2,h3,bV]
 ·simp only[zW,Nat.reduceShiftRight,Nat.reduceMod,Nat.reduceLT,Nat.reduceMul,Nat.reduceSub,Int.reduceToNat,Int.reduceNeg,Int.reduceLT,Int.reduceLE,Int.reduceEq,Nat.reduceEqDiff,Nat.reduceAdd,Nat.reduceLeDiff,reduceIte,reduceCtorEq,Nat.reduceBEq,i64,reEl,Re.cells_eq re,iD,bD,h1]
  simp [Re.kept,h1,bV]
theorem frz_data (n lim:Nat) (s:List VL.Obj) (ds:List (List D)) (k:Nat) (hk:ds.length≤k):((ds.map fun c=>c.map V.d).take k).mapM (fun (e:List V)=>e.mapM (frzD n lim s))=some ds:=by
 rw[List.take_of_length_le (by simpa using hk),mapM_frzE]
theorem cloneSpans_ok (l:List (Int × Int)) (hl:l.length≤1000000000):PureOK prog 73 [.d (.sl (l.map spanC))] (.d (.sl (l.map spanC))):=by
 refine fn_ok func73 rfl ntmps73 results73 rfl 0 5 (by simp) (by simp) ?_
 cases l with
 | nil =>
  simp only[zW,Nat.reduceShiftRight,Nat.reduceMod,Nat.reduceLT,Nat.reduceMul,Nat.reduceSub,Int.reduceToNat,Int.reduceNeg,Int.reduceLT,Int.reduceLE,Int.reduceEq,Nat.reduceEqDiff,Nat.reduceAdd,Nat.reduceLeDiff,reduceIte,reduceCtorEq,Nat.reduceBEq,]
  exact⟨⟨_,rfl⟩,by simp,by simp⟩
 | cons x l =>
  simp only[zW,Nat.reduceShiftRight,Nat.reduceMod,Nat.reduceLT,Nat.reduceMul,Nat.reduceSub,Int.reduceToNat,Int.reduceNeg,Int.reduceLT,Int.reduceLE,Int.reduceEq,Nat.reduceEqDiff,Nat.reduceAdd,Nat.reduceLeDiff,reduceIte,reduceCtorEq,Nat.reduceBEq,]
  have he:(List.map V.d (spanC x)::List.map (fun x=>List.map V.d x) (List.map spanC l))=((x::l).map spanC).map (fun c=>c.map V.d):=rfl
  simp only[List.length_cons] at hl
  refine⟨⟨_,rfl⟩,?_,⟨by omega,by simp⟩,?_⟩
  ·rw[he]; intro e hm
   obtain⟨c,hc,rfl⟩:=List.mem_map.1 hm
   obtain⟨y,_,rfl⟩:=List.mem_map.1 hc
   rfl
  ·rw[he,frz_data 7 0 _ _ (0 + (l.length + 1)) (by simp),if_pos (by omega)]
   rfl
theorem repeat_ok (re:Re) (most mode:Int):PureOK prog 110 [reV re,i64 most,i64 mode] (reV (.mk 4 [] [re] 0 most mode 0 false)):=by
 refine fn_ok func110 rfl ntmps110 results110 rfl 0 79 (by simp) (by simp) ?_
 simp only[zW,Nat.reduceShiftRight,Nat.reduceMod,Nat.reduceLT,Nat.reduceMul,Nat.reduceSub,Int.reduceToNat,Int.reduceNeg,Int.reduceLT,Int.reduceLE,Int.reduceEq,Nat.reduceEqDiff,Nat.reduceAdd,Nat.reduceLeDiff,reduceIte,reduceCtorEq,Nat.reduceBEq,i64]
 rw[reV_eq]; rfl
def joinR (l:List Re):Re :=
 match l with
 | [x]=>x
 | _=>.mk 2 [] l 0 0 0 0 false
theorem join_ok (l:List Re):PureOK prog 111 [.d (.sl (l.map Re.cells))] (reV (joinR l)):=by
 refine fn_ok func111 rfl ntmps111 results111 rfl 0 5 (by simp) (by simp) ?_
 rcases l with _ | ⟨x,_ | ⟨y,l⟩⟩
 ·simp only[zW,Nat.reduceShiftRight,Nat.reduceMod,Nat.reduceLT,Nat.reduceMul,Nat.reduceSub,Int.reduceToNat,Int.reduceNeg,Int.reduceLT,Int.reduceLE,Int.reduceEq,Nat.reduceEqDiff,Nat.reduceAdd,Nat.reduceLeDiff,reduceIte,reduceCtorEq,Nat.reduceBEq,Int.natCast_zero]
  rw[reV_eq]; rfl
 ·rw[show joinR [x]=x from rfl]
  simp only[zW,Nat.reduceShiftRight,Nat.reduceMod,Nat.reduceLT,Nat.reduceMul,Nat.reduceSub,Int.reduceToNat,Int.reduceNeg,Int.reduceLT,Int.reduceLE,Int.reduceEq,Nat.reduceEqDiff,Nat.reduceAdd,Nat.reduceLeDiff,reduceIte,reduceCtorEq,Nat.reduceBEq,Int.natCast_one,Re.cells_eq x,reV_eq x,iD,bD]
  all_goals first | exact⟨rfl,rfl⟩ | exact⟨rfl,trivial⟩ | rfl | trivial | (rw[reV_eq]; rfl)
 ·have hn:¬((l.length:Int) + 1 + 1=1):=by omega
  simp only[zW,Nat.reduceShiftRight,Nat.reduceMod,Nat.reduceLT,Nat.reduceMul,Nat.reduceSub,Int.reduceToNat,Int.reduceNeg,Int.reduceLT,Int.reduceLE,Int.reduceEq,Nat.reduceEqDiff,Nat.reduceAdd,Nat.reduceLeDiff,reduceIte,reduceCtorEq,Nat.reduceBEq,hn,Int.natCast_add,Int.natCast_one]
  rw[reV_eq]; rfl
theorem frzV_go_d (lim:Nat) (s:List VL.Obj):∀l:List D,frzV.go lim s (l.map V.d)=some (l.map V.d)
 | []=>rfl
 | x::l=>by rw[List.map_cons,frzV.go,frzV_go_d lim s l]; rfl
theorem frzV_reV (lim:Nat) (s:List VL.Obj) (re:Re):frzV lim s (reV re)=some (reV re):=by
 unfold reV; rw[frzV,frzV_go_d]; rfl
theorem refsV_reV (lim:Nat) (re:Re):refsV lim (reV re)=true:=by
 unfold reV; rw[refsV,refsV_go_d]
def cntO (c:Int):VL.Obj:=⟨0,true,1,[[i64 c]]⟩
def cell2O (f:FuncId):VL.Obj:=⟨0,true,1,[[.cl (.func f) [] [.rf 0 0 0 0,.rf 1 0 0 0]]]⟩
def SizeOK (re:Re):Prop:=∀c:Int,0≤c→c + re.size≤1000000000 →
 callWp prog 43 [reEl re,.rf 0 0 0 0,.rf 1 0 0 0] [cntO c,cell2O 43] fun v s=>v=.tu []∧s=[cntO (c + re.size),cell2O 43]
theorem size_rec (re:Re):SizeOK re:=by
 refine Re.ind (Q:=SizeOK) (fun re ih=>?_) re
 intro c hc hs
 have hlen:=Re.len_le re.kids
 have hsz:=Re.size_eq re
 have w1:IntKind.i64.wrap (c + 1)=c + 1:=w64 _ (by omega)
 refine fn_ok func43 rfl ntmps43 results43 rfl 2 6167 (by simp) (by simp) ?_
 simp only[zW,Nat.reduceShiftRight,Nat.reduceMod,Nat.reduceLT,Nat.reduceMul,Nat.reduceSub,Int.reduceToNat,Int.reduceNeg,Int.reduceLT,Int.reduceLE,Int.reduceEq,Nat.reduceEqDiff,Nat.reduceAdd,Nat.reduceLeDiff,reduceIte,reduceCtorEq,Nat.reduceBEq,i64,cntO,cell2O,reEl,Re.cells_eq re,iD,bD,w1]
 refine loop_rule (fun n e s=>∃i:Nat,n=re.kids.length - i∧i≤re.kids.length∧e 0=reEl re∧e 1=.rf 0 0 0 0∧e 2=.rf 1 0 0 0∧e 11=i64 re.kids.length∧e 12=i64 i∧s=[cntO (c + 1 + (Re.sizeL (re.kids.take i):Nat)),cell2O 43])
  ⟨_,_,_,Cln.refl,0,rfl,by omega,by simp [reEl,Re.cells_eq re,iD,bD]; rfl,rfl,rfl,rfl,rfl,by simp [Re.sizeL,cntO,cell2O,i64]⟩ ?_
 rintro n e s ⟨i,rfl,hi,h0,h1,h2,h11,h12,rfl⟩
 rcases Nat.lt_or_ge i re.kids.length with hlt | hge
 ·obtain⟨k,hk⟩:∃k,re.kids[i]?=some k:=⟨_,List.getElem?_eq_getElem hlt⟩
  have hm:=List.mem_of_getElem? hk
  have hsum:(Re.sizeL (re.kids.take (i + 1)):Nat)=Re.sizeL (re.kids.take i) + k.size:=by rw[take_get hk,Re.sizeL_append]; simp [Re.sizeL]
  have hle:=Re.sizeL_take re.kids (i + 1)
  have hk0:=ih k hm (c + 1 + (Re.sizeL (re.kids.take i):Nat)) (by omega) (by omega)
  simp only[zW,Nat.reduceShiftRight,Nat.reduceMod,Nat.reduceLT,Nat.reduceMul,Nat.reduceSub,Int.reduceToNat,Int.reduceNeg,Int.reduceLT,Int.reduceLE,Int.reduceEq,Nat.reduceEqDiff,Nat.reduceAdd,Nat.reduceLeDiff,reduceIte,reduceCtorEq,Nat.reduceBEq,i64,cntO,cell2O,reEl,Re.cells_eq re,iD,bD,h0,h1,h2,h11,h12,hlt]
  refine draw_c mix [] [(0,[1],[]),(7,[0,1],[0,1])] (by rfl) ?_
  simp only[zW,Nat.reduceShiftRight,Nat.reduceMod,Nat.reduceLT,Nat.reduceMul,Nat.reduceSub,Int.reduceToNat,Int.reduceNeg,Int.reduceLT,Int.reduceLE,Int.reduceEq,Nat.reduceEqDiff,Nat.reduceAdd,Nat.reduceLeDiff,reduceIte,reduceCtorEq,Nat.reduceBEq,i64,cntO,cell2O,reEl,Re.cells_eq re,iD,bD,h0,h1,h2,h11,h12,hlt,hk]
  refine callF_two hk0 (by simp [renV,reEl]) (by simp [refsV,refsV.go,reEl]) rfl rfl rfl rfl rfl rfl rfl ?_
  simp only[zW,Nat.reduceShiftRight,Nat.reduceMod,Nat.reduceLT,Nat.reduceMul,Nat.reduceSub,Int.reduceToNat,Int.reduceNeg,Int.reduceLT,Int.reduceLE,Int.reduceEq,Nat.reduceEqDiff,Nat.reduceAdd,Nat.reduceLeDiff,reduceIte,reduceCtorEq,Nat.reduceBEq,i64,cntO,cell2O,reEl,Re.cells_eq re,iD,bD,h0,h1,h2,h11,h12]
  refine⟨re.kids.length - (i + 1),_,_,by omega,Cln.refl,i + 1,rfl,hlt,?_,?_,?_,?_,?_,?_⟩ <;> (try simp only[zU,Nat.reduceBEq,Nat.reduceShiftRight,Nat.reduceMod,Nat.reduceEqDiff,reduceIte])
  ·simpa [reEl,Re.cells_eq re,iD,bD] using h0
  ·exact h1
  ·exact h2
  ·exact h11
  ·rw[w64 _ (by omega)]; rfl
  ·rw[hsum]; simp [Int.add_assoc]
 ·have hie:i=re.kids.length:=by omega
  subst hie
  simp only[zW,Nat.reduceShiftRight,Nat.reduceMod,Nat.reduceLT,Nat.reduceMul,Nat.reduceSub,Int.reduceToNat,Int.reduceNeg,Int.reduceLT,Int.reduceLE,Int.reduceEq,Nat.reduceEqDiff,Nat.reduceAdd,Nat.reduceLeDiff,reduceIte,reduceCtorEq,Nat.reduceBEq,i64,cntO,cell2O,reEl,Re.cells_eq re,iD,bD,h0,h1,h2,h11,h12,Nat.lt_irrefl,List.take_length]
  rw[hsz]
  simp [Int.add_assoc]
theorem size_ok (re:Re) (hs:re.size≤1000000000):PureOK prog 19 [reV re] (i64 re.size):=by
 refine fn_ok func19 rfl ntmps19 results19 rfl 0 31 (by simp) (by simp) ?_
 simp only[zW,Nat.reduceShiftRight,Nat.reduceMod,Nat.reduceLT,Nat.reduceMul,Nat.reduceSub,Int.reduceToNat,Int.reduceNeg,Int.reduceLT,Int.reduceLE,Int.reduceEq,Nat.reduceEqDiff,Nat.reduceAdd,Nat.reduceLeDiff,reduceIte,reduceCtorEq,Nat.reduceBEq,i64,reV_eq re,iD,bD]
 refine call_give [0] rfl ?_
 have hz:=size_rec re 0 (by omega) (by omega)
 rw[Int.zero_add] at hz
 refine call_at2 (r':=.tu []) 1 2 (by decide) hz (by rw[reEl,Re.cells_eq]; rfl) (by simp [refsV,refsV.go,reEl]) rfl rfl rfl rfl rfl ?_
 simp only[zW,Nat.reduceShiftRight,Nat.reduceMod,Nat.reduceLT,Nat.reduceMul,Nat.reduceSub,Int.reduceToNat,Int.reduceNeg,Int.reduceLT,Int.reduceLE,Int.reduceEq,Nat.reduceEqDiff,Nat.reduceAdd,Nat.reduceLeDiff,reduceIte,reduceCtorEq,Nat.reduceBEq,i64,killO,kill1,renO,renV,renV.go,cntO,cell2O]
 all_goals first | exact⟨rfl,rfl⟩ | exact⟨rfl,trivial⟩ | rfl | trivial | (rw[reV_eq]; rfl)
mutual
def Re.depth:Re→Int
 | .mk _ _ kids _ _ _ _ _=>Re.depthL kids 0 + 1
def Re.depthL:List Re→Int→Int
 | [],a=>a
 | k::l,a=>Re.depthL l (max a k.depth)
end
def maxL (l:List Int):Int:=l.foldl max 0
theorem Re.depthL_eq:∀(l:List Re) (a:Int),Re.depthL l a=(l.map Re.depth).foldl max a
 | [],a=>by simp [Re.depthL]
 | k::l,a=>by simp [Re.depthL,Re.depthL_eq l]
theorem Re.depth_eq (re:Re):re.depth=maxL (re.kids.map Re.depth) + 1:=by
 cases re; simp [Re.depth,Re.depthL_eq,Re.kids,maxL]
theorem maxL_snoc (l:List Int) (k:Int):maxL (l++[k])=max (maxL l) k:=by simp [maxL,List.foldl_append]
theorem foldl_max_le {b:Int}:∀(l:List Int) (a:Int),a≤b→(∀x∈l,x≤b)→l.foldl max a≤b
 | [],a,h,_=>h
 | x::l,a,h,hl=>foldl_max_le l (max a x) (by have:=hl x (by simp); omega) (fun y hy=>hl y (by simp [hy]))
theorem le_foldl_max:∀(l:List Int) (a:Int),a≤l.foldl max a
 | [],a=>Int.le_refl _
 | x::l,a=>Int.le_trans (by omega) (le_foldl_max l (max a x))
theorem Re.depth_le (re:Re):0≤re.depth∧re.depth≤re.size:=by
 refine Re.ind (Q:=fun re=>0≤re.depth∧re.depth≤re.size) (fun re ih=>?_) re
 rw[Re.depth_eq,Re.size_eq]
 have h1:=le_foldl_max (re.kids.map Re.depth) 0
 have h2:maxL (re.kids.map Re.depth)≤(Re.sizeL re.kids:Nat):=foldl_max_le _ _ (by omega) (fun x hx=>by
  obtain⟨k,hk,rfl⟩:=List.mem_map.1 hx
  have:=Re.sizeL_mem hk
  have:=(ih k hk).2
  omega)
 unfold maxL at *
 omega
def DepthOK (re:Re):Prop:=callWp prog 83 [reEl re,.rf 0 0 0 0] [cellO 83] fun v s=>v=i64 re.depth∧s=[cellO 83]
theorem depth_rec (re:Re) (hs:re.size≤1000000000):DepthOK re:=by
 revert hs
 refine Re.ind (Q:=fun re=>re.size≤1000000000→DepthOK re) (fun re ih hs=>?_) re
 have hlen:=Re.len_le re.kids
 have hsz:=Re.size_eq re
 have hd:=Re.depth_le re
 unfold DepthOK
 rw[Re.depth_eq] at hd ⊢
 refine fn_ok func83 rfl ntmps83 results83 rfl 1 3131 (by simp) (by simp) ?_
 simp only[zW,Nat.reduceShiftRight,Nat.reduceMod,Nat.reduceLT,Nat.reduceMul,Nat.reduceSub,Int.reduceToNat,Int.reduceNeg,Int.reduceLT,Int.reduceLE,Int.reduceEq,Nat.reduceEqDiff,Nat.reduceAdd,Nat.reduceLeDiff,reduceIte,reduceCtorEq,Nat.reduceBEq,i64,reEl,Re.cells_eq re,iD,bD,cellO]
 refine loop_rule (fun n e s=>∃i:Nat,n=re.kids.length - i∧i≤re.kids.length∧e 0=reEl re∧e 1=.rf 0 0 0 0∧e 4=i64 (maxL ((re.kids.take i).map Re.depth))∧e 10=i64 re.kids.length∧e 11=i64 i∧s=[cellO 83])
  ⟨_,_,_,Cln.refl,0,rfl,by omega,by simp [reEl,Re.cells_eq re,iD,bD]; rfl,rfl,rfl,rfl,rfl,rfl⟩ ?_
 rintro n e s ⟨i,rfl,hi,h0,h1,h4,h10,h11,rfl⟩
 rcases Nat.lt_or_ge i re.kids.length with hlt | hge
 ·obtain⟨k,hk⟩:∃k,re.kids[i]?=some k:=⟨_,List.getElem?_eq_getElem hlt⟩
  have hm:=List.mem_of_getElem? hk
  have hks:=Re.size_kid hm
  simp only[zW,Nat.reduceShiftRight,Nat.reduceMod,Nat.reduceLT,Nat.reduceMul,Nat.reduceSub,Int.reduceToNat,Int.reduceNeg,Int.reduceLT,Int.reduceLE,Int.reduceEq,Nat.reduceEqDiff,Nat.reduceAdd,Nat.reduceLeDiff,reduceIte,reduceCtorEq,Nat.reduceBEq,i64,h0,h1,h4,h10,h11,hlt,cellO]
  refine draw_c mix [] [(1,[0],[]),(8,[0],[0])] (by rfl) ?_
  simp only[zW,Nat.reduceShiftRight,Nat.reduceMod,Nat.reduceLT,Nat.reduceMul,Nat.reduceSub,Int.reduceToNat,Int.reduceNeg,Int.reduceLT,Int.reduceLE,Int.reduceEq,Nat.reduceEqDiff,Nat.reduceAdd,Nat.reduceLeDiff,reduceIte,reduceCtorEq,Nat.reduceBEq,i64,h0,h1,h4,h10,h11,hlt,hk,reEl,Re.cells_eq re,iD,bD]
  refine callF_one (ih k hm (by omega)) rfl rfl rfl rfl rfl rfl ?_
  simp only[zW,Nat.reduceShiftRight,Nat.reduceMod,Nat.reduceLT,Nat.reduceMul,Nat.reduceSub,Int.reduceToNat,Int.reduceNeg,Int.reduceLT,Int.reduceLE,Int.reduceEq,Nat.reduceEqDiff,Nat.reduceAdd,Nat.reduceLeDiff,reduceIte,reduceCtorEq,Nat.reduceBEq,i64,h0,h1,h4,h10,h11,cellO]
  refine⟨re.kids.length - (i + 1),_,_,by omega,Cln.refl,i + 1,rfl,hlt,?_,?_,?_,?_,?_,rfl⟩ <;> (try simp only[zU,Nat.reduceBEq,Nat.reduceShiftRight,Nat.reduceMod,Nat.reduceEqDiff,reduceIte])
  ·simpa [reEl,Re.cells_eq re,iD,bD] using h0
  ·exact h1
  ·rw[take_get hk,List.map_append,List.map_cons,List.map_nil,maxL_snoc]
  ·exact h10
  ·rw[w64 _ (by omega)]; rfl
 ·have hie:i=re.kids.length:=by omega
  subst hie
  rw[List.take_length] at h4
  have w1:IntKind.i64.wrap (maxL (re.kids.map Re.depth) + 1)=maxL (re.kids.map Re.depth) + 1:=w64 _ (by omega)
  simp only[zW,Nat.reduceShiftRight,Nat.reduceMod,Nat.reduceLT,Nat.reduceMul,Nat.reduceSub,Int.reduceToNat,Int.reduceNeg,Int.reduceLT,Int.reduceLE,Int.reduceEq,Nat.reduceEqDiff,Nat.reduceAdd,Nat.reduceLeDiff,reduceIte,reduceCtorEq,Nat.reduceBEq,i64,h0,h1,h4,h10,h11,cellO,Nat.lt_irrefl,w1]
  all_goals first | exact⟨rfl,rfl⟩ | exact⟨rfl,trivial⟩ | rfl | trivial | (rw[reV_eq]; rfl)
theorem depth_ok (re:Re) (hs:re.size≤1000000000):PureOK prog 42 [reV re] (i64 re.depth):=by
 refine fn_ok func42 rfl ntmps42 results42 rfl 0 15 (by simp) (by simp) ?_
 simp only[zW,Nat.reduceShiftRight,Nat.reduceMod,Nat.reduceLT,Nat.reduceMul,Nat.reduceSub,Int.reduceToNat,Int.reduceNeg,Int.reduceLT,Int.reduceLE,Int.reduceEq,Nat.reduceEqDiff,Nat.reduceAdd,Nat.reduceLeDiff,reduceIte,reduceCtorEq,Nat.reduceBEq,i64,reV_eq re,iD,bD]
 refine call_give [0] rfl ?_
 refine call_at (r':=i64 re.depth) 1 (depth_rec re hs) (by rw[reEl,Re.cells_eq]; rfl) rfl rfl rfl rfl ?_
 simp only[zW,Nat.reduceShiftRight,Nat.reduceMod,Nat.reduceLT,Nat.reduceMul,Nat.reduceSub,Int.reduceToNat,Int.reduceNeg,Int.reduceLT,Int.reduceLE,Int.reduceEq,Nat.reduceEqDiff,Nat.reduceAdd,Nat.reduceLeDiff,reduceIte,reduceCtorEq,Nat.reduceBEq,i64,killO,kill1,renO,renV,renV.go,cellO]
 all_goals first | exact⟨rfl,rfl⟩ | exact⟨rfl,trivial⟩ | rfl | trivial | (rw[reV_eq]; rfl)
end Go.Proofs.Ytffeafbdcakfbaa
namespace Go.Proofs.Ytffeafbdcakfbaa
open Go.VL Go.Proofs.Try
end Go.Proofs.Ytffeafbdcakfbaa
