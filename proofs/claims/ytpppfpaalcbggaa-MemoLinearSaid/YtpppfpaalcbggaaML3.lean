/- A part of the proof (Ty Da Db F2 F3 F4 F5 F13 F15 F72 F16 F22 F30 F31). -/
import Derived.Test.YtpppfpaalcbggaaRows
import Derived.KernelRfl
import Derived.Test.YtpppfpaalcbggaaML2
set_option linter.unusedSimpArgs false
set_option linter.unusedVariables false
set_option maxRecDepth 100000
set_option maxHeartbeats 80000000
namespace Go.Proofs.Ytpppfpaalcbggaa
open Go.VL Go.Proofs.Try
theorem tys0:tyI prog 1=some ⟨1,false,8,[.nilFunc]⟩∧tyI prog 2=some ⟨1,false,8,[.int .i64 0]⟩∧prog.underlying 2=some (.int .i64)∧tyI prog 3=some ⟨1,false,8,[.int .i64 0]⟩∧prog.underlying 3=some (.int .i64)∧tyI prog 4=some ⟨1,false,1,[.bool false]⟩∧prog.underlying 4=some .bool∧tyI prog 5=some ⟨1,false,1,[.int .u8 0]⟩∧prog.underlying 5=some (.int .u8)∧tyI prog 7=some ⟨4,true,24,[.int .i64 0,.int .i64 0,.bool false,.int .u8 0]⟩∧fOff prog 7 0=some 0∧fOff prog 7 1=some 1∧fOff prog 7 2=some 2∧fOff prog 7 3=some 3∧structPl prog 7=some [(0,1),(1,1),(2,1),(3,1)]∧tyI prog 9=some ⟨1,false,16,[.string ⟨#[]⟩]⟩∧tyI prog 12=some ⟨1,false,8,[.int .u64 0]⟩∧prog.underlying 12=some (.int .u64)∧tyI prog 13=some ⟨2,true,24,[.string ⟨#[]⟩,.int .u64 0]⟩∧fOff prog 13 0=some 0∧fOff prog 13 1=some 1∧structPl prog 13=some [(0,1),(1,1)]∧tyI prog 15=some ⟨1,false,8,[.pointer none]⟩∧prog.underlying 15=some (.pointer 170)∧tyI prog 16=some ⟨1,false,8,[.pointer none]⟩∧prog.underlying 16=some (.pointer 173)∧tyI prog 17=some ⟨1,false,8,[.pointer none]⟩∧prog.underlying 17=some (.pointer 183)∧tyI prog 18=some ⟨1,true,8,[.pointer none]⟩∧fOff prog 18 0=some 0∧structPl prog 18=some [(0,1)]∧tyI prog 21=some ⟨1,false,4,[.int .i32 0]⟩∧prog.underlying 21=some (.int .i32)∧tyI prog 22=some ⟨1,false,24,[.slice none 0 0]⟩∧slE prog 22=some 1∧slTy prog 22=some (3,⟨1,false,8,[.int .i64 0]⟩)∧prog.underlying 22=some (.slice 3)∧tyI prog 23=some ⟨1,false,24,[.slice none 0 0]⟩∧slE prog 23=some 2∧slTy prog 23=some (89,⟨2,true,16,[.int .i64 0,.int .i64 0]⟩)∧prog.underlying 23=some (.slice 89)∧tyI prog 24=some ⟨1,false,24,[.slice none 0 0]⟩∧slE prog 24=some 8∧slTy prog 24=some (26,⟨8,true,96,[.int .i64 0,.slice none 0 0,.slice none 0 0,.int .i64 0,.int .i64 0,.int .i64 0,.int .i64 0,.bool false]⟩)∧prog.underlying 24=some (.slice 26)∧tyI prog 25=some ⟨8,true,96,[.int .i64 0,.slice none 0 0,.slice none 0 0,.int .i64 0,.int .i64 0,.int .i64 0,.int .i64 0,.bool false]⟩∧fOff prog 25 0=some 0∧fOff prog 25 1=some 1∧fOff prog 25 2=some 2∧fOff prog 25 3=some 3∧fOff prog 25 4=some 4∧fOff prog 25 5=some 5∧fOff prog 25 6=some 6∧fOff prog 25 7=some 7∧structPl prog 25=some [(0,1),(1,1),(2,1),(3,1),(4,1),(5,1),(6,1),(7,1)]∧tyI prog 26=some ⟨8,true,96,[.int .i64 0,.slice none 0 0,.slice none 0 0,.int .i64 0,.int .i64 0,.int .i64 0,.int .i64 0,.bool false]⟩∧fOff prog 26 0=some 0∧fOff prog 26 1=some 1∧fOff prog 26 2=some 2∧fOff prog 26 3=some 3∧fOff prog 26 4=some 4∧fOff prog 26 5=some 5∧fOff prog 26 6=some 6∧fOff prog 26 7=some 7∧structPl prog 26=some [(0,1),(1,1),(2,1),(3,1),(4,1),(5,1),(6,1),(7,1)]∧tyI prog 27=some ⟨10,true,112,[.int .i64 0,.slice none 0 0,.slice none 0 0,.int .i64 0,.int .i64 0,.int .i64 0,.int .i64 0,.bool false,.int .i64 0,.bool false]⟩∧fOff prog 27 0=some 0∧fOff prog 27 1=some 8∧fOff prog 27 2=some 9∧structPl prog 27=some [(0,8),(8,1),(9,1)]:=by and_intros <;> kernel_rfl
theorem tys1:tyI prog 28=some ⟨10,true,112,[.int .i64 0,.slice none 0 0,.slice none 0 0,.int .i64 0,.int .i64 0,.int .i64 0,.int .i64 0,.bool false,.int .i64 0,.bool false]⟩∧fOff prog 28 0=some 0∧fOff prog 28 1=some 8∧fOff prog 28 2=some 9∧structPl prog 28=some [(0,8),(8,1),(9,1)]∧tyI prog 29=some ⟨1,false,8,[.nilFunc]⟩∧tyI prog 30=some ⟨1,false,8,[.nilFunc]⟩∧tyI prog 31=some ⟨1,false,8,[.nilFunc]⟩∧tyI prog 32=some ⟨1,false,8,[.nilFunc]⟩∧tyI prog 33=some ⟨1,false,8,[.nilFunc]⟩∧tyI prog 34=some ⟨1,false,8,[.int .i64 0]⟩∧prog.underlying 34=some (.int .i64)∧tyI prog 36=some ⟨1,false,8,[.nilFunc]⟩∧tyI prog 37=some ⟨1,false,24,[.slice none 0 0]⟩∧slE prog 37=some 2∧slTy prog 37=some (66,⟨2,true,16,[.int .i64 0,.int .i64 0]⟩)∧prog.underlying 37=some (.slice 66)∧tyI prog 38=some ⟨3,true,40,[.int .i64 0,.int .i64 0,.slice none 0 0]⟩∧fOff prog 38 0=some 0∧fOff prog 38 1=some 1∧fOff prog 38 2=some 2∧structPl prog 38=some [(0,1),(1,1),(2,1)]∧tyI prog 39=some ⟨3,true,40,[.int .i64 0,.int .i64 0,.slice none 0 0]⟩∧fOff prog 39 0=some 0∧fOff prog 39 1=some 1∧fOff prog 39 2=some 2∧structPl prog 39=some [(0,1),(1,1),(2,1)]∧tyI prog 41=some ⟨1,false,8,[.nilFunc]⟩∧tyI prog 42=some ⟨1,false,8,[.nilFunc]⟩∧tyI prog 43=some ⟨1,false,8,[.nilFunc]⟩∧tyI prog 44=some ⟨1,false,24,[.slice none 0 0]⟩∧slE prog 44=some 10∧slTy prog 44=some (28,⟨10,true,112,[.int .i64 0,.slice none 0 0,.slice none 0 0,.int .i64 0,.int .i64 0,.int .i64 0,.int .i64 0,.bool false,.int .i64 0,.bool false]⟩)∧prog.underlying 44=some (.slice 28)∧tyI prog 45=some ⟨1,false,8,[.nilFunc]⟩∧tyI prog 46=some ⟨1,false,8,[.nilFunc]⟩∧tyI prog 47=some ⟨1,false,24,[.slice none 0 0]⟩∧slE prog 47=some 3∧slTy prog 47=some (39,⟨3,true,40,[.int .i64 0,.int .i64 0,.slice none 0 0]⟩)∧prog.underlying 47=some (.slice 39)∧tyI prog 49=some ⟨1,false,8,[.nilFunc]⟩∧tyI prog 50=some ⟨1,false,8,[.nilFunc]⟩∧tyI prog 51=some ⟨1,false,8,[.pointer none]⟩∧prog.underlying 51=some (.pointer 53)∧tyI prog 52=some ⟨5,true,56,[.slice none 0 0,.int .i64 0,.int .i64 0,.int .i64 0,.int .i64 0]⟩∧fOff prog 52 0=some 0∧fOff prog 52 1=some 1∧fOff prog 52 2=some 2∧fOff prog 52 3=some 3∧fOff prog 52 4=some 4∧structPl prog 52=some [(0,1),(1,1),(2,1),(3,1),(4,1)]∧tyI prog 53=some ⟨5,true,56,[.slice none 0 0,.int .i64 0,.int .i64 0,.int .i64 0,.int .i64 0]⟩∧fOff prog 53 0=some 0∧fOff prog 53 1=some 1∧fOff prog 53 2=some 2∧fOff prog 53 3=some 3∧fOff prog 53 4=some 4∧structPl prog 53=some [(0,1),(1,1),(2,1),(3,1),(4,1)]∧tyI prog 54=some ⟨1,false,8,[.nilFunc]⟩∧tyI prog 55=some ⟨1,false,8,[.pointer none]⟩∧prog.underlying 55=some (.pointer 26)∧tyI prog 56=some ⟨1,false,8,[.nilFunc]⟩∧tyI prog 57=some ⟨1,false,8,[.nilFunc]⟩∧tyI prog 58=some ⟨1,false,8,[.nilFunc]⟩∧tyI prog 60=some ⟨1,false,8,[.nilFunc]⟩∧tyI prog 61=some ⟨1,false,8,[.nilFunc]⟩∧tyI prog 62=some ⟨1,false,8,[.pointer none]⟩∧prog.underlying 62=some (.pointer 80)∧tyI prog 63=some ⟨1,false,8,[.nilFunc]⟩∧tyI prog 64=some ⟨1,false,8,[.pointer none]⟩:=by and_intros <;> kernel_rfl
theorem tys2:prog.underlying 64=some (.pointer 28)∧tyI prog 65=some ⟨1,false,8,[.pointer none]⟩∧prog.underlying 65=some (.pointer 68)∧tyI prog 66=some ⟨2,true,16,[.int .i64 0,.int .i64 0]⟩∧slE prog 66=none∧arE prog 66=some (2,1)∧structPl prog 66=none∧arrI prog 66=some (2,.i64)∧tyI prog 67=some ⟨18,true,144,[.int .i64 0,.int .i64 0,.int .i64 0,.int .i64 0,.int .i64 0,.int .i64 0,.int .i64 0,.int .i64 0,.int .i64 0,.int .i64 0,.int .i64 0,.int .i64 0,.int .i64 0,.int .i64 0,.int .i64 0,.int .i64 0,.int .i64 0,.int .i64 0]⟩∧slE prog 67=none∧arE prog 67=some (9,2)∧structPl prog 67=none∧tyI prog 68=some ⟨18,true,144,[.int .i64 0,.int .i64 0,.int .i64 0,.int .i64 0,.int .i64 0,.int .i64 0,.int .i64 0,.int .i64 0,.int .i64 0,.int .i64 0,.int .i64 0,.int .i64 0,.int .i64 0,.int .i64 0,.int .i64 0,.int .i64 0,.int .i64 0,.int .i64 0]⟩∧slE prog 68=none∧arE prog 68=some (9,2)∧structPl prog 68=none∧tyI prog 69=some ⟨1,false,8,[.pointer none]⟩∧prog.underlying 69=some (.pointer 82)∧tyI prog 70=some ⟨3,true,24,[.int .i64 0,.pointer none,.pointer none]⟩∧fOff prog 70 0=some 0∧fOff prog 70 1=some 1∧fOff prog 70 2=some 2∧structPl prog 70=some [(0,1),(1,1),(2,1)]∧tyI prog 71=some ⟨3,true,24,[.int .i64 0,.pointer none,.pointer none]⟩∧fOff prog 71 0=some 0∧fOff prog 71 1=some 1∧fOff prog 71 2=some 2∧structPl prog 71=some [(0,1),(1,1),(2,1)]∧tyI prog 73=some ⟨1,false,8,[.nilFunc]⟩∧tyI prog 74=some ⟨1,false,8,[.pointer none]⟩∧prog.underlying 74=some (.pointer 117)∧tyI prog 75=some ⟨1,false,8,[.map none]⟩∧tyI prog 76=some ⟨1,false,24,[.slice none 0 0]⟩∧slE prog 76=some 11∧slTy prog 76=some (138,⟨11,true,56,[.int .i64 0,.pointer none,.pointer none,.int .i16 0,.int .i16 0,.int .i16 0,.int .i32 0,.int .i32 0,.int .i32 0,.int .i32 0,.bool false]⟩)∧prog.underlying 76=some (.slice 138)∧tyI prog 77=some ⟨1,false,8,[.map none]⟩∧tyI prog 78=some ⟨1,false,8,[.nilFunc]⟩∧tyI prog 79=some ⟨11,true,112,[.pointer none,.slice none 0 0,.map none,.slice none 0 0,.int .i64 0,.int .i64 0,.int .i64 0,.bool false,.bool false,.map none,.nilFunc]⟩∧fOff prog 79 0=some 0∧fOff prog 79 1=some 1∧fOff prog 79 2=some 2∧fOff prog 79 3=some 3∧fOff prog 79 4=some 4∧fOff prog 79 5=some 5∧fOff prog 79 6=some 6∧fOff prog 79 7=some 7∧fOff prog 79 8=some 8∧fOff prog 79 9=some 9∧fOff prog 79 10=some 10∧structPl prog 79=some [(0,1),(1,1),(2,1),(3,1),(4,1),(5,1),(6,1),(7,1),(8,1),(9,1),(10,1)]∧tyI prog 80=some ⟨11,true,112,[.pointer none,.slice none 0 0,.map none,.slice none 0 0,.int .i64 0,.int .i64 0,.int .i64 0,.bool false,.bool false,.map none,.nilFunc]⟩∧fOff prog 80 0=some 0∧fOff prog 80 1=some 1∧fOff prog 80 2=some 2∧fOff prog 80 3=some 3∧fOff prog 80 4=some 4∧fOff prog 80 5=some 5∧fOff prog 80 6=some 6∧fOff prog 80 7=some 7∧fOff prog 80 8=some 8∧fOff prog 80 9=some 9∧fOff prog 80 10=some 10∧structPl prog 80=some [(0,1),(1,1),(2,1),(3,1),(4,1),(5,1),(6,1),(7,1),(8,1),(9,1),(10,1)]∧tyI prog 81=some ⟨6,true,48,[.int .i64 0,.pointer none,.int .i64 0,.int .i64 0,.int .i64 0,.pointer none]⟩∧fOff prog 81 0=some 0∧fOff prog 81 1=some 1∧fOff prog 81 2=some 2∧fOff prog 81 3=some 3∧fOff prog 81 4=some 4:=by and_intros <;> kernel_rfl
theorem tys3:fOff prog 81 5=some 5∧structPl prog 81=some [(0,1),(1,1),(2,1),(3,1),(4,1),(5,1)]∧tyI prog 82=some ⟨6,true,48,[.int .i64 0,.pointer none,.int .i64 0,.int .i64 0,.int .i64 0,.pointer none]⟩∧fOff prog 82 0=some 0∧fOff prog 82 1=some 1∧fOff prog 82 2=some 2∧fOff prog 82 3=some 3∧fOff prog 82 4=some 4∧fOff prog 82 5=some 5∧structPl prog 82=some [(0,1),(1,1),(2,1),(3,1),(4,1),(5,1)]∧tyI prog 83=some ⟨1,false,8,[.nilFunc]⟩∧tyI prog 84=some ⟨1,false,24,[.slice none 0 0]⟩∧slE prog 84=some 1∧slTy prog 84=some (22,⟨1,false,24,[.slice none 0 0]⟩)∧prog.underlying 84=some (.slice 22)∧tyI prog 85=some ⟨1,false,8,[.nilFunc]⟩∧tyI prog 87=some ⟨1,false,8,[.nilFunc]⟩∧tyI prog 88=some ⟨2,true,16,[.int .i64 0,.int .i64 0]⟩∧fOff prog 88 0=some 0∧fOff prog 88 1=some 1∧structPl prog 88=some [(0,1),(1,1)]∧tyI prog 89=some ⟨2,true,16,[.int .i64 0,.int .i64 0]⟩∧fOff prog 89 0=some 0∧fOff prog 89 1=some 1∧structPl prog 89=some [(0,1),(1,1)]∧tyI prog 90=some ⟨1,false,8,[.nilFunc]⟩∧tyI prog 91=some ⟨1,false,8,[.nilFunc]⟩∧tyI prog 92=some ⟨1,false,8,[.pointer none]⟩∧prog.underlying 92=some (.pointer 100)∧tyI prog 93=some ⟨1,false,8,[.nilFunc]⟩∧tyI prog 94=some ⟨1,false,8,[.nilFunc]⟩∧tyI prog 96=some ⟨1,false,8,[.nilFunc]⟩∧tyI prog 97=some ⟨1,false,8,[.map none]⟩∧tyI prog 98=some ⟨1,false,24,[.slice none 0 0]⟩∧slE prog 98=some 3∧slTy prog 98=some (129,⟨3,true,24,[.int .i64 0,.pointer none,.pointer none]⟩)∧prog.underlying 98=some (.slice 129)∧tyI prog 99=some ⟨8,true,96,[.pointer none,.slice none 0 0,.map none,.slice none 0 0,.int .i64 0,.int .i64 0,.int .i64 0,.bool false]⟩∧fOff prog 99 0=some 0∧fOff prog 99 1=some 1∧fOff prog 99 2=some 2∧fOff prog 99 3=some 3∧fOff prog 99 4=some 4∧fOff prog 99 5=some 5∧fOff prog 99 6=some 6∧fOff prog 99 7=some 7∧structPl prog 99=some [(0,1),(1,1),(2,1),(3,1),(4,1),(5,1),(6,1),(7,1)]∧tyI prog 100=some ⟨8,true,96,[.pointer none,.slice none 0 0,.map none,.slice none 0 0,.int .i64 0,.int .i64 0,.int .i64 0,.bool false]⟩∧fOff prog 100 0=some 0∧fOff prog 100 1=some 1∧fOff prog 100 2=some 2∧fOff prog 100 3=some 3∧fOff prog 100 4=some 4∧fOff prog 100 5=some 5∧fOff prog 100 6=some 6∧fOff prog 100 7=some 7∧structPl prog 100=some [(0,1),(1,1),(2,1),(3,1),(4,1),(5,1),(6,1),(7,1)]∧tyI prog 101=some ⟨1,false,8,[.nilFunc]⟩∧tyI prog 102=some ⟨1,false,8,[.nilFunc]⟩∧tyI prog 103=some ⟨1,false,8,[.nilFunc]⟩∧tyI prog 104=some ⟨1,false,8,[.nilFunc]⟩∧tyI prog 105=some ⟨1,false,8,[.nilFunc]⟩∧tyI prog 106=some ⟨1,false,8,[.nilFunc]⟩∧tyI prog 107=some ⟨1,false,8,[.nilFunc]⟩∧tyI prog 108=some ⟨1,false,8,[.nilFunc]⟩∧tyI prog 109=some ⟨1,false,8,[.nilFunc]⟩∧tyI prog 110=some ⟨1,false,8,[.pointer none]⟩∧prog.underlying 110=some (.pointer 3)∧tyI prog 111=some ⟨1,false,8,[.map none]⟩∧tyI prog 112=some ⟨1,false,2,[.int .i16 0]⟩:=by and_intros <;> kernel_rfl
theorem tys4:prog.underlying 112=some (.int .i16)∧tyI prog 113=some ⟨7,true,24,[.int .i16 0,.int .i16 0,.int .i16 0,.int .i32 0,.int .i32 0,.int .i32 0,.int .i32 0]⟩∧fOff prog 113 0=some 0∧fOff prog 113 1=some 1∧fOff prog 113 2=some 2∧fOff prog 113 3=some 3∧fOff prog 113 4=some 4∧fOff prog 113 5=some 5∧fOff prog 113 6=some 6∧structPl prog 113=some [(0,1),(1,1),(2,1),(3,1),(4,1),(5,1),(6,1)]∧tyI prog 114=some ⟨7,true,24,[.int .i16 0,.int .i16 0,.int .i16 0,.int .i32 0,.int .i32 0,.int .i32 0,.int .i32 0]⟩∧fOff prog 114 0=some 0∧fOff prog 114 1=some 1∧fOff prog 114 2=some 2∧fOff prog 114 3=some 3∧fOff prog 114 4=some 4∧fOff prog 114 5=some 5∧fOff prog 114 6=some 6∧structPl prog 114=some [(0,1),(1,1),(2,1),(3,1),(4,1),(5,1),(6,1)]∧tyI prog 115=some ⟨1,false,24,[.slice none 0 0]⟩∧slE prog 115=some 1∧slTy prog 115=some (74,⟨1,false,8,[.pointer none]⟩)∧prog.underlying 115=some (.slice 74)∧tyI prog 116=some ⟨4,true,48,[.pointer none,.int .i64 0,.slice none 0 0,.bool false]⟩∧fOff prog 116 0=some 0∧fOff prog 116 1=some 1∧fOff prog 116 2=some 2∧fOff prog 116 3=some 3∧structPl prog 116=some [(0,1),(1,1),(2,1),(3,1)]∧tyI prog 117=some ⟨4,true,48,[.pointer none,.int .i64 0,.slice none 0 0,.bool false]⟩∧fOff prog 117 0=some 0∧fOff prog 117 1=some 1∧fOff prog 117 2=some 2∧fOff prog 117 3=some 3∧structPl prog 117=some [(0,1),(1,1),(2,1),(3,1)]∧tyI prog 118=some ⟨1,false,8,[.nilFunc]⟩∧tyI prog 120=some ⟨1,false,8,[.nilFunc]⟩∧tyI prog 121=some ⟨1,false,8,[.nilFunc]⟩∧tyI prog 122=some ⟨1,false,8,[.nilFunc]⟩∧tyI prog 123=some ⟨1,false,8,[.nilFunc]⟩∧tyI prog 124=some ⟨1,false,8,[.pointer none]⟩∧prog.underlying 124=some (.pointer 125)∧tyI prog 125=some ⟨18,true,144,[.int .i64 0,.int .i64 0,.int .i64 0,.int .i64 0,.int .i64 0,.int .i64 0,.int .i64 0,.int .i64 0,.int .i64 0,.int .i64 0,.int .i64 0,.int .i64 0,.int .i64 0,.int .i64 0,.int .i64 0,.int .i64 0,.int .i64 0,.int .i64 0]⟩∧slE prog 125=none∧arE prog 125=some (9,2)∧structPl prog 125=none∧tyI prog 126=some ⟨1,false,8,[.pointer none]⟩∧prog.underlying 126=some (.pointer 146)∧tyI prog 127=some ⟨1,false,8,[.nilFunc]⟩∧tyI prog 128=some ⟨3,true,24,[.int .i64 0,.pointer none,.pointer none]⟩∧fOff prog 128 0=some 0∧fOff prog 128 1=some 1∧fOff prog 128 2=some 2∧structPl prog 128=some [(0,1),(1,1),(2,1)]∧tyI prog 129=some ⟨3,true,24,[.int .i64 0,.pointer none,.pointer none]⟩∧fOff prog 129 0=some 0∧fOff prog 129 1=some 1∧fOff prog 129 2=some 2∧structPl prog 129=some [(0,1),(1,1),(2,1)]∧tyI prog 131=some ⟨1,false,8,[.nilFunc]⟩∧tyI prog 132=some ⟨1,false,24,[.slice none 0 0]⟩∧slE prog 132=some 1∧slTy prog 132=some (23,⟨1,false,24,[.slice none 0 0]⟩)∧prog.underlying 132=some (.slice 23)∧tyI prog 133=some ⟨1,false,8,[.nilFunc]⟩∧tyI prog 134=some ⟨1,false,8,[.nilFunc]⟩∧tyI prog 135=some ⟨1,false,8,[.nilFunc]⟩∧tyI prog 136=some ⟨1,false,8,[.nilFunc]⟩∧tyI prog 137=some ⟨11,true,56,[.int .i64 0,.pointer none,.pointer none,.int .i16 0,.int .i16 0,.int .i16 0,.int .i32 0,.int .i32 0,.int .i32 0,.int .i32 0,.bool false]⟩∧fOff prog 137 0=some 0:=by and_intros <;> kernel_rfl
theorem tys5:fOff prog 137 1=some 3∧fOff prog 137 2=some 10∧structPl prog 137=some [(0,3),(3,7),(10,1)]∧tyI prog 138=some ⟨11,true,56,[.int .i64 0,.pointer none,.pointer none,.int .i16 0,.int .i16 0,.int .i16 0,.int .i32 0,.int .i32 0,.int .i32 0,.int .i32 0,.bool false]⟩∧fOff prog 138 0=some 0∧fOff prog 138 1=some 3∧fOff prog 138 2=some 10∧structPl prog 138=some [(0,3),(3,7),(10,1)]∧tyI prog 139=some ⟨0,true,0,[]⟩∧structPl prog 139=some []∧tyI prog 140=some ⟨1,false,8,[.nilFunc]⟩∧tyI prog 141=some ⟨1,false,8,[.nilFunc]⟩∧tyI prog 142=some ⟨1,false,8,[.nilFunc]⟩∧tyI prog 143=some ⟨1,false,8,[.nilFunc]⟩∧tyI prog 144=some ⟨1,false,8,[.nilFunc]⟩∧tyI prog 145=some ⟨2,true,16,[.nilFunc,.pointer none]⟩∧fOff prog 145 0=some 0∧fOff prog 145 1=some 1∧structPl prog 145=some [(0,1),(1,1)]∧tyI prog 146=some ⟨2,true,16,[.nilFunc,.pointer none]⟩∧fOff prog 146 0=some 0∧fOff prog 146 1=some 1∧structPl prog 146=some [(0,1),(1,1)]∧tyI prog 147=some ⟨1,false,8,[.nilFunc]⟩∧tyI prog 148=some ⟨1,false,8,[.nilFunc]⟩∧tyI prog 150=some ⟨1,false,8,[.nilFunc]⟩∧tyI prog 151=some ⟨1,false,8,[.nilFunc]⟩∧tyI prog 152=some ⟨1,false,8,[.nilFunc]⟩∧tyI prog 153=some ⟨1,false,8,[.nilFunc]⟩∧tyI prog 154=some ⟨1,false,8,[.nilFunc]⟩∧tyI prog 155=some ⟨1,false,8,[.nilFunc]⟩∧tyI prog 156=some ⟨1,false,8,[.nilFunc]⟩∧tyI prog 157=some ⟨1,false,8,[.nilFunc]⟩∧tyI prog 159=some ⟨1,false,8,[.nilFunc]⟩∧tyI prog 160=some ⟨1,false,8,[.nilFunc]⟩∧tyI prog 162=some ⟨1,false,8,[.nilFunc]⟩∧tyI prog 163=some ⟨1,false,8,[.nilFunc]⟩∧tyI prog 164=some ⟨4,true,32,[.int .i64 0,.int .i64 0,.int .i64 0,.int .i64 0]⟩∧fOff prog 164 0=some 0∧fOff prog 164 1=some 1∧fOff prog 164 2=some 2∧fOff prog 164 3=some 3∧structPl prog 164=some [(0,1),(1,1),(2,1),(3,1)]∧tyI prog 165=some ⟨4,true,32,[.int .i64 0,.int .i64 0,.int .i64 0,.int .i64 0]⟩∧fOff prog 165 0=some 0∧fOff prog 165 1=some 1∧fOff prog 165 2=some 2∧fOff prog 165 3=some 3∧structPl prog 165=some [(0,1),(1,1),(2,1),(3,1)]∧tyI prog 166=some ⟨1,false,8,[.nilFunc]⟩∧tyI prog 167=some ⟨1,false,8,[.nilFunc]⟩∧tyI prog 168=some ⟨1,false,8,[.nilFunc]⟩∧tyI prog 169=some ⟨4,true,40,[.pointer none,.pointer none,.pointer none,.string ⟨#[]⟩]⟩∧fOff prog 169 0=some 0∧fOff prog 169 1=some 1∧fOff prog 169 2=some 2∧fOff prog 169 3=some 3∧structPl prog 169=some [(0,1),(1,1),(2,1),(3,1)]∧tyI prog 171=some ⟨0,true,0,[]⟩∧slE prog 171=none∧arE prog 171=some (0,1)∧structPl prog 171=none∧tyI prog 172=some ⟨0,true,0,[]⟩∧structPl prog 172=some [(0,0)]∧tyI prog 174=some ⟨1,false,8,[.nilFunc]⟩∧tyI prog 175=some ⟨1,false,4,[.int .u32 0]⟩∧prog.underlying 175=some (.int .u32)∧tyI prog 178=some ⟨1,false,8,[.nilFunc]⟩∧tyI prog 179=some ⟨1,false,8,[.pointer none]⟩∧prog.underlying 179=some (.pointer 5):=by and_intros <;> kernel_rfl
theorem tys6:tyI prog 182=some ⟨11,true,48,[.int .u64 0,.int .u64 0,.int .u32 0,.int .u8 0,.int .u8 0,.int .u8 0,.int .u8 0,.nilFunc,.pointer none,.int .i32 0,.int .i32 0]⟩∧fOff prog 182 0=some 0∧fOff prog 182 1=some 1∧fOff prog 182 2=some 2∧fOff prog 182 3=some 3∧fOff prog 182 4=some 4∧fOff prog 182 5=some 5∧fOff prog 182 6=some 6∧fOff prog 182 7=some 7∧fOff prog 182 8=some 8∧fOff prog 182 9=some 9∧fOff prog 182 10=some 10∧structPl prog 182=some [(0,1),(1,1),(2,1),(3,1),(4,1),(5,1),(6,1),(7,1),(8,1),(9,1),(10,1)]:=by and_intros <;> kernel_rfl
theorem tysA:type_of% (And.intro @tys0<|And.intro @tys1<|And.intro @tys2<|And.intro @tys3<|And.intro @tys4<|And.intro @tys5 @tys6):=And.intro @tys0<|And.intro @tys1<|And.intro @tys2<|And.intro @tys3<|And.intro @tys4<|And.intro @tys5 @tys6
def iD (n:Int):D:=.sc (.int .i64 n)
def bD (b:Bool):D:=.sc (.bool b)
def i64 (n:Int):V:=.d (.sc (.int .i64 n))
def bV (b:Bool):V:=.d (.sc (.bool b))
abbrev intsD (l:List Int):D:=.sl (l.map fun x=>[iD x])
theorem w64 (n:Int) (h:-9223372036854775808≤n∧n≤9223372036854775807):IntKind.i64.wrap n=n:=IntWalk.i64_in n h
def spanC (s:Int × Int):List D:=[iD s.1,iD s.2]
inductive Re where
 | mk (op:Int) (set:List (Int × Int)) (kids:List Re) (mn mx mode n:Int) (neg:Bool)
def Re.op:Re→Int | .mk x _ _ _ _ _ _ _=>x
def Re.set:Re→List (Int × Int) | .mk _ x _ _ _ _ _ _=>x
def Re.kids:Re→List Re | .mk _ _ x _ _ _ _ _=>x
def Re.mn:Re→Int | .mk _ _ _ x _ _ _ _=>x
def Re.mx:Re→Int | .mk _ _ _ _ x _ _ _=>x
def Re.mode:Re→Int | .mk _ _ _ _ _ x _ _=>x
def Re.n:Re→Int | .mk _ _ _ _ _ _ x _=>x
def Re.neg:Re→Bool | .mk _ _ _ _ _ _ _ x=>x
mutual
def Re.cells:Re→List D
 | .mk op set kids mn mx mode n neg=>[iD op,.sl (set.map spanC),.sl (Re.cellsL kids),iD mn,iD mx,iD mode,iD n,bD neg]
def Re.cellsL:List Re→List (List D)
 | []=>[]
 | k::l=>k.cells::Re.cellsL l
end
theorem Re.cellsL_eq:∀l:List Re,Re.cellsL l=l.map Re.cells
 | []=>by simp [Re.cellsL]
 | k::l=>by simp [Re.cellsL,Re.cellsL_eq l]
theorem Re.cells_eq (re:Re):re.cells=[iD re.op,.sl (re.set.map spanC),.sl (re.kids.map Re.cells),iD re.mn,iD re.mx,iD re.mode,iD re.n,bD re.neg]:=by
 cases re; simp [Re.cells,Re.cellsL_eq,Re.op,Re.set,Re.kids,Re.mn,Re.mx,Re.mode,Re.n,Re.neg]
theorem Re.cells_len (re:Re):re.cells.length=8:=by rw[Re.cells_eq]; rfl
def reV (re:Re):V:=.ag (re.cells.map .d)
theorem take_cells (re:Re):(re.cells.map V.d).take 8=re.cells.map V.d:=List.take_of_length_le (by simp [Re.cells_len])
theorem drop_cells (re:Re):(re.cells.map V.d).drop 8=[]:=List.drop_of_length_le (by simp [Re.cells_len])
theorem reV_fold (re:Re):V.ag (re.cells.map V.d)=reV re:=rfl
theorem reV_eq (re:Re):reV re=.ag [.d (iD re.op),.d (.sl (re.set.map spanC)),.d (.sl (re.kids.map Re.cells)),.d (iD re.mn),.d (iD re.mx),.d (iD re.mode),.d (iD re.n),.d (bD re.neg)]:=by
 rw[reV,Re.cells_eq]; rfl
def reEl (re:Re):V:=.d (.el re.cells)
mutual
def Re.size:Re→Nat
 | .mk _ _ kids _ _ _ _ _=>1 + Re.sizeL kids
def Re.sizeL:List Re→Nat
 | []=>0
 | k::l=>k.size + Re.sizeL l
end
theorem Re.size_eq (re:Re):re.size=1 + Re.sizeL re.kids:=by cases re; simp [Re.size,Re.kids]
theorem Re.size_pos (re:Re):0 < re.size:=by rw[Re.size_eq]; omega
theorem Re.sizeL_mem:∀{l:List Re} {k:Re},k∈l→k.size≤Re.sizeL l
 | k'::l,k,h=>by
  simp only[Re.sizeL]
  rcases List.mem_cons.1 h with rfl | h
  ·omega
  ·have:=Re.sizeL_mem h; omega
theorem Re.size_kid {re k:Re} (h:k∈re.kids):k.size < re.size:=by
 have:=Re.sizeL_mem h
 rw[Re.size_eq re]; omega
theorem Re.len_le:∀l:List Re,l.length≤Re.sizeL l
 | []=>by simp
 | k::l=>by simp only[List.length_cons,Re.sizeL]; have:=Re.len_le l; have:=k.size_pos; omega
theorem take_get {α:Type} {l:List α} {i:Nat} {x:α} (h:l[i]?=some x):l.take (i + 1)=l.take i++[x]:=by
 rw[List.take_add_one,h]; rfl
theorem Re.sizeL_append:∀a b:List Re,Re.sizeL (a++b)=Re.sizeL a + Re.sizeL b
 | [],b=>by simp [Re.sizeL]
 | k::l,b=>by simp only[List.cons_append,Re.sizeL,Re.sizeL_append l b]; omega
theorem Re.sizeL_take (l:List Re) (i:Nat):Re.sizeL (l.take i)≤Re.sizeL l:=by
 conv=>rhs; rw[← List.take_append_drop i l]
 rw[Re.sizeL_append]; omega
theorem cellsV_reV (re:Re):cellsV (reV re)=some (re.cells.map V.d):=rfl
theorem mapM_some {α β:Type} (f:α→Option β) (g:β→α) (h:∀x,f (g x)=some x):∀l:List β,(l.map g).mapM f=some l
 | []=>rfl
 | x::l=>by rw[List.map_cons,List.mapM_cons,h,mapM_some f g h l]; rfl
theorem mapM_toD (cs:List D):(cs.map V.d).mapM toD=some cs:=mapM_some toD V.d (fun _=>rfl) cs
theorem frzD_d (n lim:Nat) (s:List VL.Obj) (x:D):frzD n lim s (.d x)=some x:=by cases n <;> rfl
theorem mapM_frzD (n lim:Nat) (s:List VL.Obj) (cs:List D):(cs.map V.d).mapM (frzD n lim s)=some cs:=mapM_some (frzD n lim s) V.d (frzD_d n lim s) cs
theorem mapM_frzE (n lim:Nat) (s:List VL.Obj) (l:List (List D)):(l.map fun c=>c.map V.d).mapM (fun (e:List V)=>e.mapM (frzD n lim s))=some l:=mapM_some (fun (e:List V)=>e.mapM (frzD n lim s)) (fun c=>c.map V.d) (mapM_frzD n lim s) l
theorem Re.ind {Q:Re→Prop} (h:∀re,(∀k∈re.kids,Q k)→Q re) (re:Re):Q re:=by
 induction hn:re.size using Nat.strongRecOn generalizing re with
 | _ n ih=>exact h re fun k hk=>ih k.size (by have:=Re.size_kid hk; omega) k rfl
theorem vsB:type_of% (
 And.intro @cellsV_reV <|
 And.intro @mapM_toD <|
 And.intro @mapM_frzD <|
 And.intro @mapM_frzE <|
 And.intro @frzD_d <|
 And.intro @Re.cells_len <|
 And.intro @take_cells <|
 And.intro @drop_cells <|
 @reV_fold) :=
 And.intro @cellsV_reV <|
 And.intro @mapM_toD <|
 And.intro @mapM_frzD <|
 And.intro @mapM_frzE <|
 And.intro @frzD_d <|
 And.intro @Re.cells_len <|
 And.intro @take_cells <|
 And.intro @drop_cells <|
 @reV_fold
theorem zX:type_of% (And.intro vsL<|And.intro vsB<|And.intro vsC<|And.intro tysA @appendWp.eq_1):=(And.intro vsL<|And.intro vsB<|And.intro vsC<|And.intro tysA @appendWp.eq_1)
theorem zW:type_of% (And.intro vsA<|And.intro vsB<|And.intro vsC<|And.intro tysA @appendWp.eq_1):=(And.intro vsA<|And.intro vsB<|And.intro vsC<|And.intro tysA @appendWp.eq_1)
theorem zU:type_of% (And.intro @keepE_app<|And.intro @List.contains_cons.{0}<|And.intro @List.contains_nil.{0}<|And.intro Bool.or_false<|And.intro Bool.false_or<|And.intro Bool.or_true<|And.intro Bool.true_or<|And.intro @updE.eq_1<|And.intro @trimE_upd<|And.intro @trimE_trim<|And.intro @trimE_app<|And.intro @if_true.{1} @if_false.{1}):=(And.intro @keepE_app<|And.intro @List.contains_cons.{0}<|And.intro @List.contains_nil.{0}<|And.intro Bool.or_false<|And.intro Bool.false_or<|And.intro Bool.or_true<|And.intro Bool.true_or<|And.intro @updE.eq_1<|And.intro @trimE_upd<|And.intro @trimE_trim<|And.intro @trimE_app<|And.intro @if_true.{1} @if_false.{1})
end Go.Proofs.Ytpppfpaalcbggaa
namespace Go.Proofs.Ytpppfpaalcbggaa
open Go.VL Go.Proofs.Try
theorem mix:prog.follows .mixedOrders=true:=by rfl
def I64 (n:Int):Prop:=-9223372036854775808≤n∧n≤9223372036854775807
def around (n most:Int):Int:=if n < 0 then (-(n+1)).tmod most else n.tmod most
theorem around_ok (n m:Int) (hm:1≤m) (hn:I64 n):PureOK prog 7 [i64 n,i64 m] (i64 (around n m)):=by
 unfold I64 at hn
 refine fn_ok func7 rfl ntmps7 results7 rfl 0 19 (by simp) (by simp) ?_
 simp only[vsA,vsB,vsC,appendWp,Nat.reduceShiftRight,Nat.reduceMod,Nat.reduceLT,Nat.reduceMul,Nat.reduceSub,Int.reduceToNat,Int.reduceNeg,Int.reduceLT,Int.reduceLE,Int.reduceEq,Nat.reduceEqDiff,Nat.reduceAdd,Nat.reduceLeDiff,reduceIte,reduceCtorEq,Nat.reduceBEq,i64]
 refine⟨fun h=>⟨by omega,?_⟩,fun h=>⟨by omega,?_⟩⟩
 ·rw[w64 (n + 1) (by omega),w64 _ (by omega)]
  simp [around,h]
 ·simp [around,h]
def pick (l:List Int) (i:Int) (most:Int):Int:=if i < 0∨l.length≤i then 0 else around (l[i.toNat]?.getD 0) most
structure Mk where
 l:List Int
 pos:Int
 uses:Int
 left:Int
 caps:Int
structure Mk.ok (m:Mk):Prop where
 l:∀x∈m.l,I64 x
 pos:0≤m.pos∧m.pos≤1000000000
 left:-1000000000≤m.left∧m.left≤1000000000
 caps:0≤m.caps∧m.caps≤1000000000
end Go.Proofs.Ytpppfpaalcbggaa
namespace Go.Proofs.Ytpppfpaalcbggaa
open Go.VL Go.Proofs.Try
def lplus (a b:Int):Int:=if a < 0∨b < 0 then -1 else min (IntKind.i64.wrap (a + b)) 1000000
def lgreater (a b:Int):Int:=if a < 0∨b < 0 then -1 else max a b
def ltimes (a b:Int):Int:=if a=0∨b=0 then 0 else if a < 0∨b < 0 then -1 else min (IntKind.i64.wrap (a * b)) 1000000
def catL (l:List (Int × Int)):Int × Int:=l.foldl (fun a k=>(lplus a.1 k.1,lplus a.2 k.2)) (0,0)
def altF (a k:Int × Int):Int × Int:=(min a.1 k.1,lgreater a.2 k.2)
def altL:List (Int × Int)→Int × Int
 | []=>(0,0)
 | k::l=>l.foldl altF (altF k k)
def lensOp (op mn mx:Int) (l:List (Int × Int)):Int × Int :=
 if op=1 then (1,1)
 else if op=6 then (0,-1)
 else if op=2 then catL l
 else if op=3∨op=10∨op=4∨op=5∨op=9 then
  (if op=4 then (ltimes (altL l).1 mn,ltimes (altL l).2 mx) else altL l)
 else (0,0)
mutual
def Re.lens:Re→Int × Int
 | .mk op _ kids mn mx _ _ _=>lensOp op mn mx (Re.lensL kids)
def Re.lensL:List Re→List (Int × Int)
 | []=>[]
 | k::l=>k.lens::Re.lensL l
end
theorem Re.lensL_eq:∀l:List Re,Re.lensL l=l.map Re.lens
 | []=>by simp [Re.lensL]
 | k::l=>by simp [Re.lensL,Re.lensL_eq l]
def cellO (f:FuncId):VL.Obj:=⟨0,true,1,[[.cl (.func f) [] [.rf 0 0 0 0]]]⟩
mutual
def Re.fine:Re→Bool
 | .mk _ set kids _ _ _ _ _=>decide (set.length≤1000000000)&&(decide (kids.length≤1000000000)&&Re.fineL kids)
def Re.fineL:List Re→Bool
 | []=>true
 | k::l=>k.fine&&Re.fineL l
end
theorem Re.fineL_all:∀l:List Re,Re.fineL l=l.all Re.fine
 | []=>rfl
 | k::l=>by simp [Re.fineL,Re.fineL_all l]
theorem Re.fine_iff (re:Re):re.fine=true ↔ re.set.length≤1000000000∧re.kids.length≤1000000000∧∀k∈re.kids,k.fine=true:=by
 cases re with
 | mk op set kids mn mx mode n neg=>simp only[Re.fine,Bool.and_eq_true,decide_eq_true_eq,Re.fineL_all,List.all_eq_true,Re.set,Re.kids]
theorem Re.fine_spec {re:Re} (h:re.fine=true):re.set.length≤1000000000∧re.kids.length≤1000000000∧∀k∈re.kids,k.fine=true:=(Re.fine_iff re).1 h
def anulOp (op mn:Int) (l:List Bool):Bool :=
 if op=0∨op=6∨op=7∨op=8∨op=11 then true
 else if op=2 then l.all id
 else if op=4 then (if mn=0 then true else l.any id)
 else if op=3∨op=10∨op=5∨op=9 then l.any id
 else false
mutual
def Re.anul:Re→Bool
 | .mk op _ kids mn _ _ _ _=>anulOp op mn (Re.anulL kids)
def Re.anulL:List Re→List Bool
 | []=>[]
 | k::l=>k.anul::Re.anulL l
end
theorem Re.anulL_eq:∀l:List Re,Re.anulL l=l.map Re.anul
 | []=>by simp [Re.anulL]
 | k::l=>by simp [Re.anulL,Re.anulL_eq l]
theorem Re.anul_eq (re:Re):re.anul=anulOp re.op re.mn (re.kids.map Re.anul):=by
 cases re; simp [Re.anul,Re.anulL_eq,Re.op,Re.mn,Re.kids]
def NulOK (re:Re):Prop:=callWp prog 65 [reEl re,.rf 0 0 0 0] [cellO 65] fun v s=>v=bV re.anul∧s=[cellO 65]
theorem nul_cat (re:Re) (ih:∀k∈re.kids,k.fine=true→NulOK k) (hs:re.fine=true) (o2:re.op=2):NulOK re:=by
 obtain⟨hset1,hlen,hfk⟩:=Re.fine_spec hs
 have hle:re.anul=(re.kids.map Re.anul).all id:=by rw[Re.anul_eq,o2]; rfl
 unfold NulOK
 rw[hle]
 refine fn_ok func65 rfl ntmps65 results65 rfl 1 13519594987718203 (by simp) (by simp) ?_
 simp only[zW,Nat.reduceShiftRight,Nat.reduceMod,Nat.reduceLT,Nat.reduceMul,Nat.reduceSub,Int.reduceToNat,Int.reduceNeg,Int.reduceLT,Int.reduceLE,Int.reduceEq,Nat.reduceEqDiff,Nat.reduceAdd,Nat.reduceLeDiff,reduceIte,reduceCtorEq,Nat.reduceBEq,i64,reEl,Re.cells_eq re,iD,bD,o2,cellO]
 refine loop_rule (fun n e s=>∃i:Nat,n=re.kids.length - i∧i≤re.kids.length∧e 0=reEl re∧e 1=.rf 0 0 0 0∧(∀x∈re.kids.take i,x.anul=true)∧e 22=i64 re.kids.length∧e 23=i64 i∧s=[cellO 65])
  ⟨_,_,_,Cln.refl,0,rfl,by omega,by simp [reEl,Re.cells_eq re,iD,bD,o2]; rfl,rfl,by simp,rfl,rfl,rfl⟩ ?_
 rintro n e s ⟨i,rfl,hi,h0,h1,hall,h22,h23,rfl⟩
 rcases Nat.lt_or_ge i re.kids.length with hlt | hge
 ·obtain⟨k,hk⟩:∃k,re.kids[i]?=some k:=⟨_,List.getElem?_eq_getElem hlt⟩
  have hm:=List.mem_of_getElem? hk
  have hks:=hfk k hm
  simp only[zW,Nat.reduceShiftRight,Nat.reduceMod,Nat.reduceLT,Nat.reduceMul,Nat.reduceSub,Int.reduceToNat,Int.reduceNeg,Int.reduceLT,Int.reduceLE,Int.reduceEq,Nat.reduceEqDiff,Nat.reduceAdd,Nat.reduceLeDiff,reduceIte,reduceCtorEq,Nat.reduceBEq,h0,h1,h22,h23,i64,hlt,cellO]
  refine draw_c mix [] [(0,[0],[]),(7,[0],[0])] (by rfl) ?_
  simp only[zW,Nat.reduceShiftRight,Nat.reduceMod,Nat.reduceLT,Nat.reduceMul,Nat.reduceSub,Int.reduceToNat,Int.reduceNeg,Int.reduceLT,Int.reduceLE,Int.reduceEq,Nat.reduceEqDiff,Nat.reduceAdd,Nat.reduceLeDiff,reduceIte,reduceCtorEq,Nat.reduceBEq,h0,h1,h22,h23,i64,hlt,hk,reEl,Re.cells_eq re,iD,bD]
  refine callF_one (ih k hm hks) rfl rfl rfl rfl rfl rfl ?_
  cases hkn:k.anul with
  | true =>
   simp only[zW,Nat.reduceShiftRight,Nat.reduceMod,Nat.reduceLT,Nat.reduceMul,Nat.reduceSub,Int.reduceToNat,Int.reduceNeg,Int.reduceLT,Int.reduceLE,Int.reduceEq,Nat.reduceEqDiff,Nat.reduceAdd,Nat.reduceLeDiff,reduceIte,reduceCtorEq,Nat.reduceBEq,h0,h1,h22,h23,i64,cellO,bV,hkn]
   refine⟨re.kids.length - (i + 1),_,_,by omega,Cln.refl,i + 1,rfl,hlt,?_,?_,?_,?_,?_,rfl⟩ <;> (try simp only[zU,Nat.reduceBEq,Nat.reduceShiftRight,Nat.reduceMod,Nat.reduceEqDiff,reduceIte])
   ·simpa [reEl,Re.cells_eq re,iD,bD] using h0
   ·exact h1
   ·intro x hx
    rw[take_get hk] at hx
    rcases List.mem_append.1 hx with hx | hx
    ·exact hall x hx
    ·rw[List.mem_singleton.1 hx]; exact hkn
   ·exact h22
   ·rw[w64 _ (by omega)]; rfl
  | false =>
   simp only[zW,Nat.reduceShiftRight,Nat.reduceMod,Nat.reduceLT,Nat.reduceMul,Nat.reduceSub,Int.reduceToNat,Int.reduceNeg,Int.reduceLT,Int.reduceLE,Int.reduceEq,Nat.reduceEqDiff,Nat.reduceAdd,Nat.reduceLeDiff,reduceIte,reduceCtorEq,Nat.reduceBEq,h0,h1,h22,h23,i64,cellO,bV,hkn]
   have:(re.kids.map Re.anul).all id=false:=by rw[List.all_eq_false]; exact⟨false,List.mem_map.2 ⟨k,hm,hkn⟩,by simp⟩
   rw[this]
   all_goals first | exact⟨rfl,rfl⟩ | exact⟨rfl,trivial⟩ | rfl | trivial | (rw[reV_eq]; rfl)
 ·have hie:i=re.kids.length:=by omega
  subst hie
  rw[List.take_length] at hall
  have:(re.kids.map Re.anul).all id=true:=by rw[List.all_eq_true]; intro x hx; obtain⟨y,hy,rfl⟩:=List.mem_map.1 hx; exact hall y hy
  rw[this]
  simp only[zW,Nat.reduceShiftRight,Nat.reduceMod,Nat.reduceLT,Nat.reduceMul,Nat.reduceSub,Int.reduceToNat,Int.reduceNeg,Int.reduceLT,Int.reduceLE,Int.reduceEq,Nat.reduceEqDiff,Nat.reduceAdd,Nat.reduceLeDiff,reduceIte,reduceCtorEq,Nat.reduceBEq,h0,h1,h22,h23,i64,cellO,Nat.lt_irrefl,bV]
  all_goals first | exact⟨rfl,rfl⟩ | exact⟨rfl,trivial⟩ | rfl | trivial | (rw[reV_eq]; rfl)
theorem nul_any (re:Re) (ih:∀k∈re.kids,k.fine=true→NulOK k) (hs:re.fine=true) (o:(re.op=4∧¬re.mn=0)∨re.op=3∨re.op=10∨re.op=5∨re.op=9):NulOK re:=by
 obtain⟨hset1,hlen,hfk⟩:=Re.fine_spec hs
 have hle:re.anul=(re.kids.map Re.anul).any id:=by
  rw[Re.anul_eq]; rcases o with ⟨o,om⟩ | o | o | o | o <;> rw[o]
  ·simp [anulOp,om]
  all_goals rfl
 unfold NulOK
 rw[hle]
 obtain⟨o2,om⟩:(re.op=4∨re.op=3∨re.op=10∨re.op=5∨re.op=9)∧(re.op=4→¬re.mn=0):=by
  rcases o with ⟨o,om⟩ | o | o | o | o <;> simp [o] <;> exact om
 rcases o2 with o2 | o2 | o2 | o2 | o2
 all_goals
  refine fn_ok func65 rfl ntmps65 results65 rfl 1 13519594987718203 (by simp) (by simp) ?_
  simp only[zW,Nat.reduceShiftRight,Nat.reduceMod,Nat.reduceLT,Nat.reduceMul,Nat.reduceSub,Int.reduceToNat,Int.reduceNeg,Int.reduceLT,Int.reduceLE,Int.reduceEq,Nat.reduceEqDiff,Nat.reduceAdd,Nat.reduceLeDiff,reduceIte,reduceCtorEq,Nat.reduceBEq,i64,reEl,Re.cells_eq re,iD,bD,o2,om,cellO]
  refine loop_rule (fun n e s=>∃i:Nat,n=re.kids.length - i∧i≤re.kids.length∧e 0=reEl re∧e 1=.rf 0 0 0 0∧(∀x∈re.kids.take i,x.anul=false)∧e 52=i64 re.kids.length∧e 53=i64 i∧s=[cellO 65])
   ⟨_,_,_,Cln.refl,0,rfl,by omega,by simp [reEl,Re.cells_eq re,iD,bD,o2]; rfl,rfl,by simp,rfl,rfl,rfl⟩ ?_
  rintro n e s ⟨i,rfl,hi,h0,h1,hall,h22,h23,rfl⟩
  rcases Nat.lt_or_ge i re.kids.length with hlt | hge
  ·obtain⟨k,hk⟩:∃k,re.kids[i]?=some k:=⟨_,List.getElem?_eq_getElem hlt⟩
   have hm:=List.mem_of_getElem? hk
   have hks:=hfk k hm
   simp only[zW,Nat.reduceShiftRight,Nat.reduceMod,Nat.reduceLT,Nat.reduceMul,Nat.reduceSub,Int.reduceToNat,Int.reduceNeg,Int.reduceLT,Int.reduceLE,Int.reduceEq,Nat.reduceEqDiff,Nat.reduceAdd,Nat.reduceLeDiff,reduceIte,reduceCtorEq,Nat.reduceBEq,h0,h1,h22,h23,i64,hlt,cellO]
   refine draw_c mix [] [(0,[0],[]),(7,[0],[0])] (by rfl) ?_
   simp only[zW,Nat.reduceShiftRight,Nat.reduceMod,Nat.reduceLT,Nat.reduceMul,Nat.reduceSub,Int.reduceToNat,Int.reduceNeg,Int.reduceLT,Int.reduceLE,Int.reduceEq,Nat.reduceEqDiff,Nat.reduceAdd,Nat.reduceLeDiff,reduceIte,reduceCtorEq,Nat.reduceBEq,h0,h1,h22,h23,i64,hlt,hk,reEl,Re.cells_eq re,iD,bD]
   refine callF_one (ih k hm hks) rfl rfl rfl rfl rfl rfl ?_
   cases hkn:k.anul with
   | false =>
    simp only[zW,Nat.reduceShiftRight,Nat.reduceMod,Nat.reduceLT,Nat.reduceMul,Nat.reduceSub,Int.reduceToNat,Int.reduceNeg,Int.reduceLT,Int.reduceLE,Int.reduceEq,Nat.reduceEqDiff,Nat.reduceAdd,Nat.reduceLeDiff,reduceIte,reduceCtorEq,Nat.reduceBEq,h0,h1,h22,h23,i64,cellO,bV,hkn]
    refine⟨re.kids.length - (i + 1),_,_,by omega,Cln.refl,i + 1,rfl,hlt,?_,?_,?_,?_,?_,rfl⟩ <;> (try simp only[zU,Nat.reduceBEq,Nat.reduceShiftRight,Nat.reduceMod,Nat.reduceEqDiff,reduceIte])
    ·simpa [reEl,Re.cells_eq re,iD,bD,o2] using h0
    ·exact h1
    ·intro x hx
     rw[take_get hk] at hx
     rcases List.mem_append.1 hx with hx | hx
     ·exact hall x hx
     ·rw[List.mem_singleton.1 hx]; exact hkn
    ·exact h22
    ·rw[w64 _ (by omega)]; rfl
   | true =>
    simp only[zW,Nat.reduceShiftRight,Nat.reduceMod,Nat.reduceLT,Nat.reduceMul,Nat.reduceSub,Int.reduceToNat,Int.reduceNeg,Int.reduceLT,Int.reduceLE,Int.reduceEq,Nat.reduceEqDiff,Nat.reduceAdd,Nat.reduceLeDiff,reduceIte,reduceCtorEq,Nat.reduceBEq,h0,h1,h22,h23,i64,cellO,bV,hkn]
    have:(re.kids.map Re.anul).any id=true:=by rw[List.any_eq_true]; exact⟨true,List.mem_map.2 ⟨k,hm,hkn⟩,by simp⟩
    rw[this]
    all_goals first | exact⟨rfl,rfl⟩ | exact⟨rfl,trivial⟩ | rfl | trivial | (rw[reV_eq]; rfl)
  ·have hie:i=re.kids.length:=by omega
   subst hie
   rw[List.take_length] at hall
   have:(re.kids.map Re.anul).any id=false:=by rw[List.any_eq_false]; intro x hx; obtain⟨y,hy,rfl⟩:=List.mem_map.1 hx; simp [hall y hy]
   rw[this]
   simp only[zW,Nat.reduceShiftRight,Nat.reduceMod,Nat.reduceLT,Nat.reduceMul,Nat.reduceSub,Int.reduceToNat,Int.reduceNeg,Int.reduceLT,Int.reduceLE,Int.reduceEq,Nat.reduceEqDiff,Nat.reduceAdd,Nat.reduceLeDiff,reduceIte,reduceCtorEq,Nat.reduceBEq,h0,h1,h22,h23,i64,cellO,Nat.lt_irrefl,bV]
   all_goals first | exact⟨rfl,rfl⟩ | exact⟨rfl,trivial⟩ | rfl | trivial | (rw[reV_eq]; rfl)
theorem nul_leaf (re:Re) (o1:¬re.op=2) (o2:¬re.op=3) (o3:¬re.op=10) (o4:re.op=4→re.mn=0) (o5:¬re.op=5) (o6:¬re.op=9):NulOK re:=by
 unfold NulOK
 by_cases p4:re.op=4
 ·have hle:re.anul=true:=by rw[Re.anul_eq,p4,o4 p4]; rfl
  rw[hle]
  have pm:=o4 p4
  refine fn_ok func65 rfl ntmps65 results65 rfl 1 13519594987718203 (by simp) (by simp) ?_
  simp only[zW,Nat.reduceShiftRight,Nat.reduceMod,Nat.reduceLT,Nat.reduceMul,Nat.reduceSub,Int.reduceToNat,Int.reduceNeg,Int.reduceLT,Int.reduceLE,Int.reduceEq,Nat.reduceEqDiff,Nat.reduceAdd,Nat.reduceLeDiff,reduceIte,reduceCtorEq,Nat.reduceBEq,i64,reEl,Re.cells_eq re,iD,bD,p4,pm,cellO,bV]
  all_goals first | exact⟨rfl,rfl⟩ | exact⟨rfl,trivial⟩ | rfl | trivial | (rw[reV_eq]; rfl)
 by_cases p:re.op=0∨re.op=6∨re.op=7∨re.op=8∨re.op=11
 ·have hle:re.anul=true:=by rw[Re.anul_eq]; simp [anulOp,p]
  rw[hle]
  rcases p with p | p | p | p | p
  all_goals
   refine fn_ok func65 rfl ntmps65 results65 rfl 1 13519594987718203 (by simp) (by simp) ?_
   simp only[zW,Nat.reduceShiftRight,Nat.reduceMod,Nat.reduceLT,Nat.reduceMul,Nat.reduceSub,Int.reduceToNat,Int.reduceNeg,Int.reduceLT,Int.reduceLE,Int.reduceEq,Nat.reduceEqDiff,Nat.reduceAdd,Nat.reduceLeDiff,reduceIte,reduceCtorEq,Nat.reduceBEq,i64,reEl,Re.cells_eq re,iD,bD,p,cellO,bV]
   all_goals first | exact⟨rfl,rfl⟩ | exact⟨rfl,trivial⟩ | rfl | trivial | (rw[reV_eq]; rfl)
 have hle:re.anul=false:=by rw[Re.anul_eq]; simp [anulOp,p,o1,o2,o3,p4,o5,o6]
 rw[hle]
 have p0:¬re.op=0:=fun h=>p (.inl h)
 have p6:¬re.op=6:=fun h=>p (.inr (.inl h))
 have p7:¬re.op=7:=fun h=>p (.inr (.inr (.inl h)))
 have p8:¬re.op=8:=fun h=>p (.inr (.inr (.inr (.inl h))))
 have p11:¬re.op=11:=fun h=>p (.inr (.inr (.inr (.inr h))))
 refine fn_ok func65 rfl ntmps65 results65 rfl 1 13519594987718203 (by simp) (by simp) ?_
 simp only[zW,Nat.reduceShiftRight,Nat.reduceMod,Nat.reduceLT,Nat.reduceMul,Nat.reduceSub,Int.reduceToNat,Int.reduceNeg,Int.reduceLT,Int.reduceLE,Int.reduceEq,Nat.reduceEqDiff,Nat.reduceAdd,Nat.reduceLeDiff,reduceIte,reduceCtorEq,Nat.reduceBEq,i64,reEl,Re.cells_eq re,iD,bD,o1,o2,o3,p4,o5,o6,p0,p6,p7,p8,p11,cellO,bV]
 all_goals first | exact⟨rfl,rfl⟩ | exact⟨rfl,trivial⟩ | rfl | trivial | (rw[reV_eq]; rfl)
theorem nul_rec (re:Re) (hs:re.fine=true):NulOK re:=by
 revert hs
 refine Re.ind (Q:=fun re=>re.fine=true→NulOK re) (fun re ih hs=>?_) re
 by_cases o2:re.op=2
 ·exact nul_cat re ih hs o2
 by_cases o:(re.op=4∧¬re.mn=0)∨re.op=3∨re.op=10∨re.op=5∨re.op=9
 ·exact nul_any re ih hs o
 ·exact nul_leaf re o2 (fun h=>o (.inr (.inl h))) (fun h=>o (.inr (.inr (.inl h)))) (fun h=>by by_cases hm:re.mn=0; exact hm; exact absurd (.inl ⟨h,hm⟩) o) (fun h=>o (.inr (.inr (.inr (.inl h))))) (fun h=>o (.inr (.inr (.inr (.inr h)))))
theorem nullable_ok (re:Re) (hs:re.fine=true):PureOK prog 47 [reV re] (bV re.anul):=by
 refine fn_ok func47 rfl ntmps47 results47 rfl 0 15 (by simp) (by simp) ?_
 simp only[zW,Nat.reduceShiftRight,Nat.reduceMod,Nat.reduceLT,Nat.reduceMul,Nat.reduceSub,Int.reduceToNat,Int.reduceNeg,Int.reduceLT,Int.reduceLE,Int.reduceEq,Nat.reduceEqDiff,Nat.reduceAdd,Nat.reduceLeDiff,reduceIte,reduceCtorEq,Nat.reduceBEq,i64,reV_eq re,iD,bD]
 refine call_give [0] rfl ?_
 refine call_at (r':=bV re.anul) 1 (nul_rec re hs) (by rw[reEl,Re.cells_eq]; rfl) rfl rfl rfl rfl ?_
 simp only[zW,Nat.reduceShiftRight,Nat.reduceMod,Nat.reduceLT,Nat.reduceMul,Nat.reduceSub,Int.reduceToNat,Int.reduceNeg,Int.reduceLT,Int.reduceLE,Int.reduceEq,Nat.reduceEqDiff,Nat.reduceAdd,Nat.reduceLeDiff,reduceIte,reduceCtorEq,Nat.reduceBEq,i64,killO,kill1,renO,renV,renV.go,cellO,bV]
 all_goals first | exact⟨rfl,rfl⟩ | exact⟨rfl,trivial⟩ | rfl | trivial | (rw[reV_eq]; rfl)
theorem callWp_post {P:Program} {f:FuncId} {args:List V} {s:List VL.Obj} {K1 K:V→List VL.Obj→Prop} (h:callWp P f args s K1)
  (hw:∀v s1,K1 v s1→∀σ w u,Inv σ s1 w→RepV σ s1 w v u→∃σ2 s2 v2,Evolve σ s1 w σ2 s2 w∧Inv σ2 s2 w∧RepV σ2 s2 w v2 u∧K v2 s2):callWp P f args s K:=by
 refine⟨h.1,fun σ w vals hI hl hv=>(h.2 σ w vals hI hl hv).mono fun e w' ⟨u,v,σ',s',h1,h2,h3,h4,h5⟩=>?_⟩
 obtain⟨σ2,s2,v2,k1,k2,k3,k4⟩:=hw v s' h5 σ' w' u h3 h4
 exact⟨u,v2,σ2,s2,h1,h2.trans k1,k2,k3,k4⟩
theorem reserve_ok {σ:Gh} {s:List VL.Obj} {w:World} (hI:Inv σ s w) {o:VL.Obj} {pre post:List V} (k sz:Nat) (ho:s[k]?=some o) (hels:o.els=[pre++.fu []::post]) (hsz:pre.length + 1 + post.length=o.sz) :
  ∃σ',Evolve σ s w σ' (s.set k { o with els:=[pre++.so s.length 0 0 0::post] }++[⟨0,true,sz,[]⟩]) w∧Inv σ' (s.set k { o with els:=[pre++.so s.length 0 0 0::post] }++[⟨0,true,sz,[]⟩]) w:=by
 have hk:=(List.getElem?_eq_some_iff.1 ho).1
 have hp:=push_obj (p:=none) (o':=⟨0,true,sz,[]⟩) (w':=w) hI rfl rfl rfl (Nat.le_refl _) (fun _ _=>rfl) (fun _ _ h'=>by cases h') (fun _=>.inl (.inl ⟨rfl,rfl⟩))
 have ho2:(s++[(⟨0,true,sz,[]⟩:VL.Obj)])[k]?=some o:=by rw[List.getElem?_append_left hk]; exact ho
 have hr:=recell hp.2 (els':=[pre++.so s.length 0 0 0::post]) ho2 (by intro e he; rw[List.mem_singleton.1 he]; simp; omega) (by rw[hels]; rfl) (by
  intro es he
  rw[hels] at he
  have hm:(pre++.fu []::post)∈mapEls es:=by rw[← he]; exact List.mem_singleton.2 rfl
  unfold mapEls at hm
  obtain⟨x,_,hx⟩:=List.mem_map.1 hm
  have hf:V.fu []∈[V.d (.sc x.key),V.d (.sc x.val)]:=by rw[hx]; simp
  simp at hf) (fun i j x' hx=>by
  rw[hels]
  cases i with
  | succ i=>simp at hx
  | zero =>
   simp only[List.getElem?_cons_zero,Option.bind_some] at hx ⊢
   by_cases hj:j=pre.length
   ·subst hj
    rw[List.getElem?_append_right (Nat.le_refl _),Nat.sub_self] at hx ⊢
    simp only[List.getElem?_cons_zero,Option.some.injEq] at hx ⊢
    subst hx
    refine⟨_,rfl,fun u hu=>?_⟩
    cases hu with | fu hx=>?_
    exact .so ⟨0,true,sz,[]⟩ (by simp) (Nat.le_refl _) ⟨_,_,rfl⟩ (fun _=>.inl ⟨updG_same _ _ _,⟨_,rfl⟩,rfl,rfl⟩)
   ·refine⟨x',?_,fun u hu=>hu⟩
    rcases Nat.lt_or_ge j pre.length with hlt | hge
    ·rw[List.getElem?_append_left hlt] at hx ⊢; exact hx
    ·rw[List.getElem?_append_right hge] at hx ⊢
     cases hm:j - pre.length with
     | zero=>omega
     | succ m=>rw[hm] at hx; simpa using hx)
 have hset:(s++[(⟨0,true,sz,[]⟩:VL.Obj)]).set k { o with els:=[pre++.so s.length 0 0 0::post] }=s.set k { o with els:=[pre++.so s.length 0 0 0::post] }++[⟨0,true,sz,[]⟩]:=by
  rw[List.set_append_left _ _ hk]
 rw[hset] at hr
 exact⟨_,hp.1.trans hr.1,hr.2⟩
theorem frz_data (n lim:Nat) (s:List VL.Obj) (ds:List (List D)) (k:Nat) (hk:ds.length≤k):((ds.map fun c=>c.map V.d).take k).mapM (fun (e:List V)=>e.mapM (frzD n lim s))=some ds:=by
 rw[List.take_of_length_le (by simpa using hk),mapM_frzE]
def cntO (c:Int):VL.Obj:=⟨0,true,1,[[i64 c]]⟩
def cell2O (f:FuncId):VL.Obj:=⟨0,true,1,[[.cl (.func f) [] [.rf 0 0 0 0,.rf 1 0 0 0]]]⟩
mutual
def Re.depth:Re→Int
 | .mk _ _ kids _ _ _ _ _=>Re.depthL kids 0 + 1
def Re.depthL:List Re→Int→Int
 | [],a=>a
 | k::l,a=>Re.depthL l (max a k.depth)
end
def maxL (l:List Int):Int:=l.foldl max 0
theorem Re.depthL_eq:∀(l:List Re) (a:Int),Re.depthL l a=(l.map Re.depth).foldl max a
 | [],a=>by simp [Re.depthL]
 | k::l,a=>by simp [Re.depthL,Re.depthL_eq l]
theorem Re.depth_eq (re:Re):re.depth=maxL (re.kids.map Re.depth) + 1:=by
 cases re; simp [Re.depth,Re.depthL_eq,Re.kids,maxL]
theorem maxL_snoc (l:List Int) (k:Int):maxL (l++[k])=max (maxL l) k:=by simp [maxL,List.foldl_append]
theorem foldl_max_le {b:Int}:∀(l:List Int) (a:Int),a≤b→(∀x∈l,x≤b)→l.foldl max a≤b
 | [],a,h,_=>h
 | x::l,a,h,hl=>foldl_max_le l (max a x) (by have:=hl x (by simp); omega) (fun y hy=>hl y (by simp [hy]))
theorem le_foldl_max:∀(l:List Int) (a:Int),a≤l.foldl max a
 | [],a=>Int.le_refl _
 | x::l,a=>Int.le_trans (by omega) (le_foldl_max l (max a x))
theorem Re.depth_le (re:Re):0≤re.depth∧re.depth≤re.size:=by
 refine Re.ind (Q:=fun re=>0≤re.depth∧re.depth≤re.size) (fun re ih=>?_) re
 rw[Re.depth_eq,Re.size_eq]
 have h1:=le_foldl_max (re.kids.map Re.depth) 0
 have h2:maxL (re.kids.map Re.depth)≤(Re.sizeL re.kids:Nat):=foldl_max_le _ _ (by omega) (fun x hx=>by
  obtain⟨k,hk,rfl⟩:=List.mem_map.1 hx
  have:=Re.sizeL_mem hk
  have:=(ih k hk).2
  omega)
 unfold maxL at *
 omega
end Go.Proofs.Ytpppfpaalcbggaa
namespace Go.Proofs.Ytpppfpaalcbggaa
open Go.VL Go.Proofs.Try
theorem refDepth_ok (re:Re) (hs:re.size≤1000000000):PureOK prog 58 [reV re] (i64 re.depth):=by
 revert hs
 refine Re.ind (Q:=fun re=>re.size≤1000000000→PureOK prog 58 [reV re] (i64 re.depth)) (fun re ih hs=>?_) re
 have hlen:=Re.len_le re.kids
 have hsz:=Re.size_eq re
 have hd:=Re.depth_le re
 rw[Re.depth_eq] at hd ⊢
 refine fn_ok func58 rfl ntmps58 results58 rfl 0 31 (by simp) (by simp) ?_
 simp only[zW,Nat.reduceShiftRight,Nat.reduceMod,Nat.reduceLT,Nat.reduceMul,Nat.reduceSub,Int.reduceToNat,Int.reduceNeg,Int.reduceLT,Int.reduceLE,Int.reduceEq,Nat.reduceEqDiff,Nat.reduceAdd,Nat.reduceLeDiff,reduceIte,reduceCtorEq,Nat.reduceBEq,i64,reV_eq re,iD,bD]
 refine loop_rule (fun n e s=>∃i:Nat,n=re.kids.length - i∧i≤re.kids.length∧e 1=.rf 0 0 0 0∧e 3=i64 (maxL ((re.kids.take i).map Re.depth))∧e 4=i64 i∧s=[⟨0,true,8,[re.cells.map .d]⟩])
  ⟨_,_,_,Cln.refl,0,rfl,by omega,rfl,rfl,rfl,by rw[Re.cells_eq re]; rfl⟩ ?_
 rintro n e s ⟨i,rfl,hi,h1,h3,h4,rfl⟩
 rcases Nat.lt_or_ge i re.kids.length with hlt | hge
 ·obtain⟨k,hk⟩:∃k,re.kids[i]?=some k:=⟨_,List.getElem?_eq_getElem hlt⟩
  have hm:=List.mem_of_getElem? hk
  have hks:=Re.size_kid hm
  simp only[zW,Nat.reduceShiftRight,Nat.reduceMod,Nat.reduceLT,Nat.reduceMul,Nat.reduceSub,Int.reduceToNat,Int.reduceNeg,Int.reduceLT,Int.reduceLE,Int.reduceEq,Nat.reduceEqDiff,Nat.reduceAdd,Nat.reduceLeDiff,reduceIte,reduceCtorEq,Nat.reduceBEq,i64,Re.cells_eq re,iD,bD,h1,h3,h4,hlt,hk]
  refine call_pure (ih k hm (by omega)) (by simp [refsV,refsV.go,reV_eq,i64,bV,reEl]) (by simp [refsV,refsV.go,reV_eq,i64,bV,reEl]) ?_
  simp only[zW,Nat.reduceShiftRight,Nat.reduceMod,Nat.reduceLT,Nat.reduceMul,Nat.reduceSub,Int.reduceToNat,Int.reduceNeg,Int.reduceLT,Int.reduceLE,Int.reduceEq,Nat.reduceEqDiff,Nat.reduceAdd,Nat.reduceLeDiff,reduceIte,reduceCtorEq,Nat.reduceBEq,i64,Re.cells_eq re,iD,bD,h1,h3,h4]
  refine⟨re.kids.length - (i + 1),_,_,by omega,Cln.refl,i + 1,rfl,hlt,?_,?_,?_,rfl⟩ <;> (try simp only[zU,Nat.reduceBEq,Nat.reduceShiftRight,Nat.reduceMod,Nat.reduceEqDiff,reduceIte])
  ·exact h1
  ·rw[take_get hk,List.map_append,List.map_cons,List.map_nil,maxL_snoc]
  ·rw[w64 _ (by omega)]; rfl
 ·have hie:i=re.kids.length:=by omega
  subst hie
  rw[List.take_length] at h3
  have w1:IntKind.i64.wrap (maxL (re.kids.map Re.depth) + 1)=maxL (re.kids.map Re.depth) + 1:=w64 _ (by omega)
  simp only[zW,Nat.reduceShiftRight,Nat.reduceMod,Nat.reduceLT,Nat.reduceMul,Nat.reduceSub,Int.reduceToNat,Int.reduceNeg,Int.reduceLT,Int.reduceLE,Int.reduceEq,Nat.reduceEqDiff,Nat.reduceAdd,Nat.reduceLeDiff,reduceIte,reduceCtorEq,Nat.reduceBEq,i64,Re.cells_eq re,iD,bD,h1,h3,h4,Nat.lt_irrefl,w1]
  all_goals first | exact⟨rfl,rfl⟩ | exact⟨rfl,trivial⟩ | rfl | trivial | (rw[reV_eq]; rfl)
def usesN (op mode:Int) (nul:List Bool):Int :=
 if op=6 then 1 else if op=10 then 2 else if op=7∨op=8 then 4 else if op=9 then 8 else if op=11 then 16 else if op=5 then 64
 else if op=4 then
  let u:=if mode=2 then bitV .or .i64 0 8 else 0
  if nul.headD false=true then bitV .or .i64 u 32 else u
 else 0
theorem usesOf_ok (re:Re) (hs:re.fine=true):PureOK prog 19 [reEl re] (i64 (usesN re.op re.mode (re.kids.map Re.anul))):=by
 obtain⟨hset1,hlen,hfk⟩:=Re.fine_spec hs
 by_cases o4:re.op=4
 ·cases hk:re.kids with
  | nil =>
   by_cases hm:re.mode=2
   ·rw[show usesN re.op re.mode (([]:List Re).map Re.anul)=bitV .or .i64 0 8 by simp [usesN,o4,hm]]
    refine fn_ok func19 rfl ntmps19 results19 rfl 0 4237 (by simp) (by simp) ?_
    simp only[zW,Nat.reduceShiftRight,Nat.reduceMod,Nat.reduceLT,Nat.reduceMul,Nat.reduceSub,Int.reduceToNat,Int.reduceNeg,Int.reduceLT,Int.reduceLE,Int.reduceEq,Nat.reduceEqDiff,Nat.reduceAdd,Nat.reduceLeDiff,reduceIte,reduceCtorEq,Nat.reduceBEq,i64,reEl,Re.cells_eq re,iD,bD,o4,hk,hm,Int.natCast_zero]
    all_goals first | exact⟨rfl,rfl⟩ | exact⟨rfl,trivial⟩ | rfl | trivial | (rw[reV_eq]; rfl)
   ·rw[show usesN re.op re.mode (([]:List Re).map Re.anul)=0 by simp [usesN,o4,hm]]
    refine fn_ok func19 rfl ntmps19 results19 rfl 0 4237 (by simp) (by simp) ?_
    simp only[zW,Nat.reduceShiftRight,Nat.reduceMod,Nat.reduceLT,Nat.reduceMul,Nat.reduceSub,Int.reduceToNat,Int.reduceNeg,Int.reduceLT,Int.reduceLE,Int.reduceEq,Nat.reduceEqDiff,Nat.reduceAdd,Nat.reduceLeDiff,reduceIte,reduceCtorEq,Nat.reduceBEq,i64,reEl,Re.cells_eq re,iD,bD,o4,hk,hm,Int.natCast_zero]
    all_goals first | exact⟨rfl,rfl⟩ | exact⟨rfl,trivial⟩ | rfl | trivial | (rw[reV_eq]; rfl)
  | cons k l =>
   have hnk:=nullable_ok k (hfk k (by rw[hk]; simp))
   have hp:(0:Int) < (l.length:Int) + 1:=by omega
   by_cases hm:re.mode=2
   all_goals
    cases hkn:k.anul
    all_goals
     rw[show usesN re.op re.mode ((k::l).map Re.anul)=(if k.anul=true then bitV .or .i64 (if re.mode=2 then bitV .or .i64 0 8 else 0) 32 else (if re.mode=2 then bitV .or .i64 0 8 else 0)) by simp [usesN,o4]]
     simp only[hkn,hm]
     refine fn_ok func19 rfl ntmps19 results19 rfl 0 4237 (by simp) (by simp) ?_
     simp only[zW,Nat.reduceShiftRight,Nat.reduceMod,Nat.reduceLT,Nat.reduceMul,Nat.reduceSub,Int.reduceToNat,Int.reduceNeg,Int.reduceLT,Int.reduceLE,Int.reduceEq,Nat.reduceEqDiff,Nat.reduceAdd,Nat.reduceLeDiff,reduceIte,reduceCtorEq,Nat.reduceBEq,i64,reEl,Re.cells_eq re,iD,bD,o4,hk,hm,Int.natCast_add,Int.natCast_one,hp]
     refine call_pure hnk (by simp [refsV,refsV.go,reV_eq,i64,bV,reEl]) (by simp [refsV,refsV.go,reV_eq,i64,bV,reEl]) ?_
     simp only[zW,Nat.reduceShiftRight,Nat.reduceMod,Nat.reduceLT,Nat.reduceMul,Nat.reduceSub,Int.reduceToNat,Int.reduceNeg,Int.reduceLT,Int.reduceLE,Int.reduceEq,Nat.reduceEqDiff,Nat.reduceAdd,Nat.reduceLeDiff,reduceIte,reduceCtorEq,Nat.reduceBEq,i64,bV,hkn,hm]
     all_goals first | exact⟨rfl,rfl⟩ | exact⟨rfl,trivial⟩ | rfl | trivial | (rw[reV_eq]; rfl)
 ·by_cases p:re.op=6∨re.op=10∨re.op=7∨re.op=8∨re.op=9∨re.op=11∨re.op=5
  ·rcases p with p | p | p | p | p | p | p
   all_goals
    rw[p]
    refine fn_ok func19 rfl ntmps19 results19 rfl 0 4237 (by simp) (by simp) ?_
    simp only[zW,Nat.reduceShiftRight,Nat.reduceMod,Nat.reduceLT,Nat.reduceMul,Nat.reduceSub,Int.reduceToNat,Int.reduceNeg,Int.reduceLT,Int.reduceLE,Int.reduceEq,Nat.reduceEqDiff,Nat.reduceAdd,Nat.reduceLeDiff,reduceIte,reduceCtorEq,Nat.reduceBEq,i64,reEl,Re.cells_eq re,iD,bD,p]
    all_goals first | exact⟨rfl,rfl⟩ | exact⟨rfl,trivial⟩ | rfl | trivial | (rw[reV_eq]; rfl)
  ·have p6:¬re.op=6:=fun h=>p (.inl h)
   have p10:¬re.op=10:=fun h=>p (.inr (.inl h))
   have p7:¬re.op=7:=fun h=>p (.inr (.inr (.inl h)))
   have p8:¬re.op=8:=fun h=>p (.inr (.inr (.inr (.inl h))))
   have p9:¬re.op=9:=fun h=>p (.inr (.inr (.inr (.inr (.inl h)))))
   have p11:¬re.op=11:=fun h=>p (.inr (.inr (.inr (.inr (.inr (.inl h))))))
   have p5:¬re.op=5:=fun h=>p (.inr (.inr (.inr (.inr (.inr (.inr h))))))
   rw[show usesN re.op re.mode (re.kids.map Re.anul)=0 by simp [usesN,p6,p10,p7,p8,p9,p11,p5,o4]]
   refine fn_ok func19 rfl ntmps19 results19 rfl 0 4237 (by simp) (by simp) ?_
   simp only[zW,Nat.reduceShiftRight,Nat.reduceMod,Nat.reduceLT,Nat.reduceMul,Nat.reduceSub,Int.reduceToNat,Int.reduceNeg,Int.reduceLT,Int.reduceLE,Int.reduceEq,Nat.reduceEqDiff,Nat.reduceAdd,Nat.reduceLeDiff,reduceIte,reduceCtorEq,Nat.reduceBEq,i64,reEl,Re.cells_eq re,iD,bD,p6,p10,p7,p8,p9,p11,p5,o4]
   all_goals first | exact⟨rfl,rfl⟩ | exact⟨rfl,trivial⟩ | rfl | trivial | (rw[reV_eq]; rfl)
end Go.Proofs.Ytpppfpaalcbggaa
