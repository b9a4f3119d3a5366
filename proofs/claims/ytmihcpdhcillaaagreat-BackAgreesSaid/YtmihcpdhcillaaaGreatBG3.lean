/- A part of the proof (Ty Da Db F2 F3 F4 F5 F13 F15 F16 F30 F22 F31 F72). -/
import Derived.Test.YtmihcpdhcillaaaGreatRows
import Derived.KernelRfl
import Derived.Test.YtmihcpdhcillaaaGreatBG1
import Derived.Test.YtmihcpdhcillaaaGreatBG2
set_option linter.unusedSimpArgs false
set_option linter.unusedVariables false
set_option maxRecDepth 100000
set_option maxHeartbeats 80000000
namespace Go.Proofs.YtmihcpdhcillaaaGreat
open Go.VL Go.Proofs.Tryz
theorem N1:kN prog 22=some (3,⟨1,false,8,[.int .i64 0]⟩):=by kernel_rfl
theorem ON:kN prog 35=some (66,⟨2,true,16,[.int .i64 0,.int .i64 0]⟩):=by kernel_rfl
theorem N7:kN prog 41=some (37,⟨3,true,40,[.int .i64 0,.int .i64 0,.slice none 0 0]⟩):=by kernel_rfl
theorem Qi:cA prog 1=some ⟨1,false,8,[.nilFunc]⟩∧cA prog 2=some ⟨1,false,8,[.int .i64 0]⟩∧prog.underlying 2=some (.int .i64)∧cA prog 3=some ⟨1,false,8,[.int .i64 0]⟩∧prog.underlying 3=some (.int .i64)∧cA prog 4=some ⟨1,false,1,[.bool false]⟩∧prog.underlying 4=some .bool∧cA prog 5=some ⟨1,false,1,[.int .u8 0]⟩∧prog.underlying 5=some (.int .u8)∧cA prog 7=some ⟨4,true,24,[.int .i64 0,.int .i64 0,.bool false,.int .u8 0]⟩∧bd prog 7 0=some 0∧bd prog 7 1=some 1∧bd prog 7 2=some 2∧bd prog 7 3=some 3∧bG prog 7=some [(0,1),(1,1),(2,1),(3,1)]∧cA prog 9=some ⟨1,false,16,[.string ⟨#[]⟩]⟩∧cA prog 12=some ⟨1,false,8,[.int .u64 0]⟩∧prog.underlying 12=some (.int .u64)∧cA prog 13=some ⟨2,true,24,[.string ⟨#[]⟩,.int .u64 0]⟩∧bd prog 13 0=some 0∧bd prog 13 1=some 1∧bG prog 13=some [(0,1),(1,1)]∧cA prog 15=some ⟨1,false,8,[.pointer none]⟩∧prog.underlying 15=some (.pointer 160)∧cA prog 16=some ⟨1,false,8,[.pointer none]⟩∧prog.underlying 16=some (.pointer 163)∧cA prog 17=some ⟨1,false,8,[.pointer none]⟩∧prog.underlying 17=some (.pointer 172)∧cA prog 18=some ⟨1,true,8,[.pointer none]⟩∧bd prog 18 0=some 0∧bG prog 18=some [(0,1)]∧cA prog 21=some ⟨1,false,4,[.int .i32 0]⟩∧prog.underlying 21=some (.int .i32)∧cA prog 22=some ⟨1,false,24,[.slice none 0 0]⟩∧BT prog 22=some 1∧kN prog 22=some (3,⟨1,false,8,[.int .i64 0]⟩)∧prog.underlying 22=some (.slice 3)∧cA prog 23=some ⟨1,false,24,[.slice none 0 0]⟩∧BT prog 23=some 2∧kN prog 23=some (79,⟨2,true,16,[.int .i64 0,.int .i64 0]⟩)∧prog.underlying 23=some (.slice 79)∧cA prog 24=some ⟨1,false,24,[.slice none 0 0]⟩∧BT prog 24=some 8∧kN prog 24=some (26,⟨8,true,96,[.int .i64 0,.slice none 0 0,.slice none 0 0,.int .i64 0,.int .i64 0,.int .i64 0,.int .i64 0,.bool false]⟩)∧prog.underlying 24=some (.slice 26)∧cA prog 25=some ⟨8,true,96,[.int .i64 0,.slice none 0 0,.slice none 0 0,.int .i64 0,.int .i64 0,.int .i64 0,.int .i64 0,.bool false]⟩∧bd prog 25 0=some 0∧bd prog 25 1=some 1∧bd prog 25 2=some 2∧bd prog 25 3=some 3∧bd prog 25 4=some 4∧bd prog 25 5=some 5∧bd prog 25 6=some 6∧bd prog 25 7=some 7∧bG prog 25=some [(0,1),(1,1),(2,1),(3,1),(4,1),(5,1),(6,1),(7,1)]∧cA prog 26=some ⟨8,true,96,[.int .i64 0,.slice none 0 0,.slice none 0 0,.int .i64 0,.int .i64 0,.int .i64 0,.int .i64 0,.bool false]⟩∧bd prog 26 0=some 0∧bd prog 26 1=some 1∧bd prog 26 2=some 2∧bd prog 26 3=some 3∧bd prog 26 4=some 4∧bd prog 26 5=some 5∧bd prog 26 6=some 6∧bd prog 26 7=some 7∧bG prog 26=some [(0,1),(1,1),(2,1),(3,1),(4,1),(5,1),(6,1),(7,1)]∧cA prog 27=some ⟨10,true,112,[.int .i64 0,.slice none 0 0,.slice none 0 0,.int .i64 0,.int .i64 0,.int .i64 0,.int .i64 0,.bool false,.int .i64 0,.bool false]⟩∧bd prog 27 0=some 0∧bd prog 27 1=some 8∧bd prog 27 2=some 9∧bG prog 27=some [(0,8),(8,1),(9,1)]:=by and_intros <;> kernel_rfl
theorem Qa:cA prog 28=some ⟨10,true,112,[.int .i64 0,.slice none 0 0,.slice none 0 0,.int .i64 0,.int .i64 0,.int .i64 0,.int .i64 0,.bool false,.int .i64 0,.bool false]⟩∧bd prog 28 0=some 0∧bd prog 28 1=some 8∧bd prog 28 2=some 9∧bG prog 28=some [(0,8),(8,1),(9,1)]∧cA prog 30=some ⟨1,false,8,[.nilFunc]⟩∧cA prog 31=some ⟨1,false,8,[.pointer none]⟩∧prog.underlying 31=some (.pointer 53)∧cA prog 32=some ⟨1,false,8,[.int .i64 0]⟩∧prog.underlying 32=some (.int .i64)∧cA prog 34=some ⟨1,false,8,[.nilFunc]⟩∧cA prog 35=some ⟨1,false,24,[.slice none 0 0]⟩∧BT prog 35=some 2∧kN prog 35=some (66,⟨2,true,16,[.int .i64 0,.int .i64 0]⟩)∧prog.underlying 35=some (.slice 66)∧cA prog 36=some ⟨3,true,40,[.int .i64 0,.int .i64 0,.slice none 0 0]⟩∧bd prog 36 0=some 0∧bd prog 36 1=some 1∧bd prog 36 2=some 2∧bG prog 36=some [(0,1),(1,1),(2,1)]∧cA prog 37=some ⟨3,true,40,[.int .i64 0,.int .i64 0,.slice none 0 0]⟩∧bd prog 37 0=some 0∧bd prog 37 1=some 1∧bd prog 37 2=some 2∧bG prog 37=some [(0,1),(1,1),(2,1)]∧cA prog 39=some ⟨1,false,8,[.nilFunc]⟩∧cA prog 40=some ⟨1,false,8,[.nilFunc]⟩∧cA prog 41=some ⟨1,false,24,[.slice none 0 0]⟩∧BT prog 41=some 3∧kN prog 41=some (37,⟨3,true,40,[.int .i64 0,.int .i64 0,.slice none 0 0]⟩)∧prog.underlying 41=some (.slice 37)∧cA prog 43=some ⟨1,false,8,[.nilFunc]⟩∧cA prog 44=some ⟨1,false,8,[.nilFunc]⟩∧cA prog 45=some ⟨1,false,8,[.nilFunc]⟩∧cA prog 46=some ⟨1,false,8,[.nilFunc]⟩∧cA prog 47=some ⟨1,false,8,[.nilFunc]⟩∧cA prog 48=some ⟨1,false,8,[.nilFunc]⟩∧cA prog 49=some ⟨1,false,8,[.nilFunc]⟩∧cA prog 50=some ⟨1,false,8,[.nilFunc]⟩∧cA prog 51=some ⟨1,false,24,[.slice none 0 0]⟩∧BT prog 51=some 3∧kN prog 51=some (117,⟨3,true,40,[.int .i64 0,.slice none 0 0,.pointer none]⟩)∧prog.underlying 51=some (.slice 117)∧cA prog 52=some ⟨19,true,224,[.int .i64 0,.slice none 0 0,.slice none 0 0,.int .i64 0,.int .i64 0,.int .i64 0,.int .i64 0,.bool false,.int .i64 0,.bool false,.slice none 0 0,.slice none 0 0,.slice none 0 0,.int .i64 0,.int .i64 0,.int .i64 0,.int .i64 0,.bool false,.bool false]⟩∧bd prog 52 0=some 0∧bd prog 52 1=some 10∧bd prog 52 2=some 11∧bd prog 52 3=some 12∧bd prog 52 4=some 13∧bd prog 52 5=some 14∧bd prog 52 6=some 15∧bd prog 52 7=some 16∧bd prog 52 8=some 17∧bd prog 52 9=some 18∧bG prog 52=some [(0,10),(10,1),(11,1),(12,1),(13,1),(14,1),(15,1),(16,1),(17,1),(18,1)]∧cA prog 53=some ⟨19,true,224,[.int .i64 0,.slice none 0 0,.slice none 0 0,.int .i64 0,.int .i64 0,.int .i64 0,.int .i64 0,.bool false,.int .i64 0,.bool false,.slice none 0 0,.slice none 0 0,.slice none 0 0,.int .i64 0,.int .i64 0,.int .i64 0,.int .i64 0,.bool false,.bool false]⟩∧bd prog 53 0=some 0∧bd prog 53 1=some 10∧bd prog 53 2=some 11∧bd prog 53 3=some 12∧bd prog 53 4=some 13∧bd prog 53 5=some 14∧bd prog 53 6=some 15∧bd prog 53 7=some 16∧bd prog 53 8=some 17∧bd prog 53 9=some 18∧bG prog 53=some [(0,10),(10,1),(11,1),(12,1),(13,1),(14,1),(15,1),(16,1),(17,1),(18,1)]∧cA prog 54=some ⟨1,false,8,[.nilFunc]⟩∧cA prog 55=some ⟨1,false,8,[.pointer none]⟩∧prog.underlying 55=some (.pointer 64):=by and_intros <;> kernel_rfl
theorem Qk:cA prog 56=some ⟨1,false,8,[.nilFunc]⟩∧cA prog 57=some ⟨1,false,8,[.pointer none]⟩∧prog.underlying 57=some (.pointer 28)∧cA prog 58=some ⟨1,false,8,[.nilFunc]⟩∧cA prog 60=some ⟨1,false,8,[.nilFunc]⟩∧cA prog 61=some ⟨1,false,8,[.map none]⟩∧cA prog 62=some ⟨1,false,24,[.slice none 0 0]⟩∧BT prog 62=some 3∧kN prog 62=some (110,⟨3,true,24,[.int .i64 0,.pointer none,.pointer none]⟩)∧prog.underlying 62=some (.slice 110)∧cA prog 63=some ⟨8,true,96,[.pointer none,.slice none 0 0,.map none,.slice none 0 0,.int .i64 0,.int .i64 0,.int .i64 0,.bool false]⟩∧bd prog 63 0=some 0∧bd prog 63 1=some 1∧bd prog 63 2=some 2∧bd prog 63 3=some 3∧bd prog 63 4=some 4∧bd prog 63 5=some 5∧bd prog 63 6=some 6∧bd prog 63 7=some 7∧bG prog 63=some [(0,1),(1,1),(2,1),(3,1),(4,1),(5,1),(6,1),(7,1)]∧cA prog 64=some ⟨8,true,96,[.pointer none,.slice none 0 0,.map none,.slice none 0 0,.int .i64 0,.int .i64 0,.int .i64 0,.bool false]⟩∧bd prog 64 0=some 0∧bd prog 64 1=some 1∧bd prog 64 2=some 2∧bd prog 64 3=some 3∧bd prog 64 4=some 4∧bd prog 64 5=some 5∧bd prog 64 6=some 6∧bd prog 64 7=some 7∧bG prog 64=some [(0,1),(1,1),(2,1),(3,1),(4,1),(5,1),(6,1),(7,1)]∧cA prog 65=some ⟨1,false,8,[.nilFunc]⟩∧cA prog 66=some ⟨2,true,16,[.int .i64 0,.int .i64 0]⟩∧BT prog 66=none∧Me prog 66=some (2,1)∧bG prog 66=none∧Ld prog 66=some (2,.i64)∧cA prog 67=some ⟨6,true,64,[.int .i64 0,.int .i64 0,.slice none 0 0,.bool false,.int .i64 0,.int .i64 0]⟩∧bd prog 67 0=some 0∧bd prog 67 1=some 3∧bd prog 67 2=some 4∧bd prog 67 3=some 5∧bG prog 67=some [(0,3),(3,1),(4,1),(5,1)]∧cA prog 68=some ⟨6,true,64,[.int .i64 0,.int .i64 0,.slice none 0 0,.bool false,.int .i64 0,.int .i64 0]⟩∧bd prog 68 0=some 0∧bd prog 68 1=some 3∧bd prog 68 2=some 4∧bd prog 68 3=some 5∧bG prog 68=some [(0,3),(3,1),(4,1),(5,1)]∧cA prog 69=some ⟨1,false,8,[.nilFunc]⟩∧cA prog 70=some ⟨1,false,8,[.pointer none]⟩∧prog.underlying 70=some (.pointer 119)∧cA prog 71=some ⟨3,true,40,[.int .i64 0,.slice none 0 0,.pointer none]⟩∧bd prog 71 0=some 0∧bd prog 71 1=some 1∧bd prog 71 2=some 2∧bG prog 71=some [(0,1),(1,1),(2,1)]∧cA prog 72=some ⟨3,true,40,[.int .i64 0,.slice none 0 0,.pointer none]⟩∧bd prog 72 0=some 0∧bd prog 72 1=some 1∧bd prog 72 2=some 2∧bG prog 72=some [(0,1),(1,1),(2,1)]∧cA prog 74=some ⟨1,false,8,[.nilFunc]⟩∧cA prog 75=some ⟨1,false,8,[.nilFunc]⟩∧cA prog 76=some ⟨1,false,8,[.pointer none]⟩∧prog.underlying 76=some (.pointer 26)∧cA prog 77=some ⟨1,false,8,[.nilFunc]⟩∧cA prog 78=some ⟨2,true,16,[.int .i64 0,.int .i64 0]⟩∧bd prog 78 0=some 0∧bd prog 78 1=some 1∧bG prog 78=some [(0,1),(1,1)]:=by and_intros <;> kernel_rfl
theorem Rl:cA prog 79=some ⟨2,true,16,[.int .i64 0,.int .i64 0]⟩∧bd prog 79 0=some 0∧bd prog 79 1=some 1∧bG prog 79=some [(0,1),(1,1)]∧cA prog 80=some ⟨1,false,8,[.nilFunc]⟩∧cA prog 81=some ⟨1,false,8,[.nilFunc]⟩∧cA prog 82=some ⟨1,false,8,[.pointer none]⟩∧prog.underlying 82=some (.pointer 84)∧cA prog 83=some ⟨5,true,56,[.slice none 0 0,.int .i64 0,.int .i64 0,.int .i64 0,.int .i64 0]⟩∧bd prog 83 0=some 0∧bd prog 83 1=some 1∧bd prog 83 2=some 2∧bd prog 83 3=some 3∧bd prog 83 4=some 4∧bG prog 83=some [(0,1),(1,1),(2,1),(3,1),(4,1)]∧cA prog 84=some ⟨5,true,56,[.slice none 0 0,.int .i64 0,.int .i64 0,.int .i64 0,.int .i64 0]⟩∧bd prog 84 0=some 0∧bd prog 84 1=some 1∧bd prog 84 2=some 2∧bd prog 84 3=some 3∧bd prog 84 4=some 4∧bG prog 84=some [(0,1),(1,1),(2,1),(3,1),(4,1)]∧cA prog 85=some ⟨1,false,8,[.nilFunc]⟩∧cA prog 86=some ⟨1,false,8,[.nilFunc]⟩∧cA prog 87=some ⟨1,false,8,[.nilFunc]⟩∧cA prog 88=some ⟨1,false,8,[.pointer none]⟩∧prog.underlying 88=some (.pointer 91)∧cA prog 89=some ⟨1,false,24,[.slice none 0 0]⟩∧BT prog 89=some 1∧kN prog 89=some (35,⟨1,false,24,[.slice none 0 0]⟩)∧prog.underlying 89=some (.slice 35)∧cA prog 90=some ⟨7,true,104,[.slice none 0 0,.int .i64 0,.int .i64 0,.int .i64 0,.bool false,.slice none 0 0,.slice none 0 0]⟩∧bd prog 90 0=some 0∧bd prog 90 1=some 1∧bd prog 90 2=some 2∧bd prog 90 3=some 3∧bd prog 90 4=some 4∧bd prog 90 5=some 5∧bd prog 90 6=some 6∧bG prog 90=some [(0,1),(1,1),(2,1),(3,1),(4,1),(5,1),(6,1)]∧cA prog 91=some ⟨7,true,104,[.slice none 0 0,.int .i64 0,.int .i64 0,.int .i64 0,.bool false,.slice none 0 0,.slice none 0 0]⟩∧bd prog 91 0=some 0∧bd prog 91 1=some 1∧bd prog 91 2=some 2∧bd prog 91 3=some 3∧bd prog 91 4=some 4∧bd prog 91 5=some 5∧bd prog 91 6=some 6∧bG prog 91=some [(0,1),(1,1),(2,1),(3,1),(4,1),(5,1),(6,1)]∧cA prog 92=some ⟨1,false,8,[.nilFunc]⟩∧cA prog 93=some ⟨1,false,8,[.pointer none]⟩∧prog.underlying 93=some (.pointer 95)∧cA prog 94=some ⟨12,true,128,[.int .i64 0,.int .i64 0,.slice none 0 0,.slice none 0 0,.int .i64 0,.int .i64 0,.int .i64 0,.int .i64 0,.bool false,.int .i64 0,.int .i64 0,.pointer none]⟩∧bd prog 94 0=some 0∧bd prog 94 1=some 1∧bd prog 94 2=some 9∧bd prog 94 3=some 10∧bd prog 94 4=some 11∧bG prog 94=some [(0,1),(1,8),(9,1),(10,1),(11,1)]∧cA prog 95=some ⟨12,true,128,[.int .i64 0,.int .i64 0,.slice none 0 0,.slice none 0 0,.int .i64 0,.int .i64 0,.int .i64 0,.int .i64 0,.bool false,.int .i64 0,.int .i64 0,.pointer none]⟩∧bd prog 95 0=some 0∧bd prog 95 1=some 1∧bd prog 95 2=some 9∧bd prog 95 3=some 10∧bd prog 95 4=some 11∧bG prog 95=some [(0,1),(1,8),(9,1),(10,1),(11,1)]∧cA prog 96=some ⟨1,false,8,[.nilFunc]⟩∧cA prog 97=some ⟨1,false,8,[.nilFunc]⟩∧cA prog 98=some ⟨1,false,8,[.nilFunc]⟩∧cA prog 99=some ⟨1,false,8,[.nilFunc]⟩:=by and_intros <;> kernel_rfl
theorem QA:cA prog 100=some ⟨1,false,8,[.nilFunc]⟩∧cA prog 101=some ⟨1,false,24,[.slice none 0 0]⟩∧BT prog 101=some 10∧kN prog 101=some (28,⟨10,true,112,[.int .i64 0,.slice none 0 0,.slice none 0 0,.int .i64 0,.int .i64 0,.int .i64 0,.int .i64 0,.bool false,.int .i64 0,.bool false]⟩)∧prog.underlying 101=some (.slice 28)∧cA prog 102=some ⟨1,false,8,[.nilFunc]⟩∧cA prog 103=some ⟨1,false,8,[.nilFunc]⟩∧cA prog 104=some ⟨1,false,8,[.pointer none]⟩∧prog.underlying 104=some (.pointer 106)∧cA prog 105=some ⟨18,true,144,[.int .i64 0,.int .i64 0,.int .i64 0,.int .i64 0,.int .i64 0,.int .i64 0,.int .i64 0,.int .i64 0,.int .i64 0,.int .i64 0,.int .i64 0,.int .i64 0,.int .i64 0,.int .i64 0,.int .i64 0,.int .i64 0,.int .i64 0,.int .i64 0]⟩∧BT prog 105=none∧Me prog 105=some (9,2)∧bG prog 105=none∧cA prog 106=some ⟨18,true,144,[.int .i64 0,.int .i64 0,.int .i64 0,.int .i64 0,.int .i64 0,.int .i64 0,.int .i64 0,.int .i64 0,.int .i64 0,.int .i64 0,.int .i64 0,.int .i64 0,.int .i64 0,.int .i64 0,.int .i64 0,.int .i64 0,.int .i64 0,.int .i64 0]⟩∧BT prog 106=none∧Me prog 106=some (9,2)∧bG prog 106=none∧cA prog 107=some ⟨1,false,8,[.pointer none]⟩∧prog.underlying 107=some (.pointer 135)∧cA prog 108=some ⟨1,false,8,[.nilFunc]⟩∧cA prog 109=some ⟨3,true,24,[.int .i64 0,.pointer none,.pointer none]⟩∧bd prog 109 0=some 0∧bd prog 109 1=some 1∧bd prog 109 2=some 2∧bG prog 109=some [(0,1),(1,1),(2,1)]∧cA prog 110=some ⟨3,true,24,[.int .i64 0,.pointer none,.pointer none]⟩∧bd prog 110 0=some 0∧bd prog 110 1=some 1∧bd prog 110 2=some 2∧bG prog 110=some [(0,1),(1,1),(2,1)]∧cA prog 112=some ⟨1,false,8,[.nilFunc]⟩∧cA prog 113=some ⟨1,false,8,[.nilFunc]⟩∧cA prog 114=some ⟨1,false,8,[.int .u64 0]⟩∧prog.underlying 114=some (.int .u64)∧cA prog 115=some ⟨1,false,8,[.nilFunc]⟩∧cA prog 116=some ⟨3,true,40,[.int .i64 0,.slice none 0 0,.pointer none]⟩∧bd prog 116 0=some 0∧bG prog 116=some [(0,3)]∧cA prog 117=some ⟨3,true,40,[.int .i64 0,.slice none 0 0,.pointer none]⟩∧bd prog 117 0=some 0∧bG prog 117=some [(0,3)]∧cA prog 118=some ⟨5,true,40,[.int .i64 0,.pointer none,.int .i64 0,.int .i64 0,.pointer none]⟩∧bd prog 118 0=some 0∧bd prog 118 1=some 1∧bd prog 118 2=some 2∧bd prog 118 3=some 3∧bd prog 118 4=some 4∧bG prog 118=some [(0,1),(1,1),(2,1),(3,1),(4,1)]∧cA prog 119=some ⟨5,true,40,[.int .i64 0,.pointer none,.int .i64 0,.int .i64 0,.pointer none]⟩∧bd prog 119 0=some 0∧bd prog 119 1=some 1∧bd prog 119 2=some 2∧bd prog 119 3=some 3∧bd prog 119 4=some 4∧bG prog 119=some [(0,1),(1,1),(2,1),(3,1),(4,1)]∧cA prog 120=some ⟨1,false,8,[.nilFunc]⟩∧cA prog 121=some ⟨1,false,8,[.nilFunc]⟩∧cA prog 122=some ⟨1,false,8,[.nilFunc]⟩∧cA prog 123=some ⟨1,false,8,[.nilFunc]⟩∧cA prog 124=some ⟨1,false,8,[.nilFunc]⟩∧cA prog 125=some ⟨1,false,8,[.nilFunc]⟩∧cA prog 126=some ⟨1,false,8,[.nilFunc]⟩∧cA prog 127=some ⟨1,false,8,[.nilFunc]⟩∧cA prog 128=some ⟨1,false,8,[.nilFunc]⟩∧cA prog 129=some ⟨1,false,8,[.nilFunc]⟩∧cA prog 130=some ⟨1,false,8,[.nilFunc]⟩∧cA prog 131=some ⟨1,false,8,[.nilFunc]⟩∧cA prog 132=some ⟨1,false,8,[.nilFunc]⟩∧cA prog 133=some ⟨1,false,8,[.nilFunc]⟩∧cA prog 134=some ⟨2,true,16,[.nilFunc,.pointer none]⟩:=by and_intros <;> kernel_rfl
theorem QL:bd prog 134 0=some 0∧bd prog 134 1=some 1∧bG prog 134=some [(0,1),(1,1)]∧cA prog 135=some ⟨2,true,16,[.nilFunc,.pointer none]⟩∧bd prog 135 0=some 0∧bd prog 135 1=some 1∧bG prog 135=some [(0,1),(1,1)]∧cA prog 136=some ⟨1,false,8,[.nilFunc]⟩∧cA prog 137=some ⟨1,false,8,[.nilFunc]⟩∧cA prog 138=some ⟨1,false,8,[.nilFunc]⟩∧cA prog 139=some ⟨1,false,8,[.nilFunc]⟩∧cA prog 140=some ⟨1,false,24,[.slice none 0 0]⟩∧BT prog 140=some 1∧kN prog 140=some (23,⟨1,false,24,[.slice none 0 0]⟩)∧prog.underlying 140=some (.slice 23)∧cA prog 141=some ⟨1,false,8,[.nilFunc]⟩∧cA prog 142=some ⟨1,false,8,[.nilFunc]⟩∧cA prog 143=some ⟨1,false,8,[.nilFunc]⟩∧cA prog 145=some ⟨1,false,8,[.nilFunc]⟩∧cA prog 146=some ⟨1,false,8,[.nilFunc]⟩∧cA prog 148=some ⟨1,false,8,[.nilFunc]⟩∧cA prog 149=some ⟨1,false,8,[.nilFunc]⟩∧cA prog 150=some ⟨1,false,8,[.nilFunc]⟩∧cA prog 151=some ⟨1,false,8,[.nilFunc]⟩∧cA prog 152=some ⟨1,false,8,[.nilFunc]⟩∧cA prog 153=some ⟨1,false,8,[.nilFunc]⟩∧cA prog 154=some ⟨1,false,8,[.nilFunc]⟩∧cA prog 155=some ⟨1,false,8,[.nilFunc]⟩∧cA prog 157=some ⟨1,false,8,[.nilFunc]⟩∧cA prog 158=some ⟨1,false,8,[.nilFunc]⟩∧cA prog 159=some ⟨4,true,40,[.pointer none,.pointer none,.pointer none,.string ⟨#[]⟩]⟩∧bd prog 159 0=some 0∧bd prog 159 1=some 1∧bd prog 159 2=some 2∧bd prog 159 3=some 3∧bG prog 159=some [(0,1),(1,1),(2,1),(3,1)]∧cA prog 161=some ⟨0,true,0,[]⟩∧BT prog 161=none∧Me prog 161=some (0,1)∧bG prog 161=none∧cA prog 162=some ⟨0,true,0,[]⟩∧bG prog 162=some [(0,0)]∧cA prog 164=some ⟨1,false,4,[.int .u32 0]⟩∧prog.underlying 164=some (.int .u32)∧cA prog 167=some ⟨1,false,8,[.nilFunc]⟩∧cA prog 168=some ⟨1,false,8,[.pointer none]⟩∧prog.underlying 168=some (.pointer 5)∧cA prog 171=some ⟨11,true,48,[.int .u64 0,.int .u64 0,.int .u32 0,.int .u8 0,.int .u8 0,.int .u8 0,.int .u8 0,.nilFunc,.pointer none,.int .i32 0,.int .i32 0]⟩∧bd prog 171 0=some 0∧bd prog 171 1=some 1∧bd prog 171 2=some 2∧bd prog 171 3=some 3∧bd prog 171 4=some 4∧bd prog 171 5=some 5∧bd prog 171 6=some 6∧bd prog 171 7=some 7∧bd prog 171 8=some 8∧bd prog 171 9=some 9∧bd prog 171 10=some 10∧bG prog 171=some [(0,1),(1,1),(2,1),(3,1),(4,1),(5,1),(6,1),(7,1),(8,1),(9,1),(10,1)]:=by and_intros <;> kernel_rfl
theorem nL:type_of% (And.intro @Qi<|And.intro @Qa<|And.intro @Qk<|And.intro @Rl<|And.intro @QA @QL):=And.intro @Qi<|And.intro @Qa<|And.intro @Qk<|And.intro @Rl<|And.intro @QA @QL
def iD (n:Int):D:=.sc (.int .i64 n)
def bD (b:Bool):D:=.sc (.bool b)
def i64 (n:Int):V:=.d (.sc (.int .i64 n))
def bV (b:Bool):V:=.d (.sc (.bool b))
abbrev aB (l:List Int):D:=.sl (l.map fun x=>[iD x])
theorem bU (n:Int) (h:-9223372036854775808≤n∧n≤9223372036854775807):IntKind.i64.wrap n=n:=IntWalk.i64_in n h
def aT (s:Int×Int):List D:=[iD s.1,iD s.2]
inductive Re where
 |mk (op:Int) (set:List (Int×Int)) (kids:List Re) (mn mx mode n:Int) (neg:Bool)
def Re.op:Re→Int|.mk x _ _ _ _ _ _ _=>x
def Re.set:Re→List (Int×Int)|.mk _ x _ _ _ _ _ _=>x
def Re.kids:Re→List Re|.mk _ _ x _ _ _ _ _=>x
def Re.mn:Re→Int|.mk _ _ _ x _ _ _ _=>x
def Re.mx:Re→Int|.mk _ _ _ _ x _ _ _=>x
def Re.mode:Re→Int|.mk _ _ _ _ _ x _ _=>x
def Re.n:Re→Int|.mk _ _ _ _ _ _ x _=>x
def Re.neg:Re→Bool|.mk _ _ _ _ _ _ _ x=>x
mutual
def Re.cells:Re→List D
 |.mk op set kids mn mx mode n neg=>[iD op,.sl (set.map aT),.sl (Re.xL kids),iD mn,iD mx,iD mode,iD n,bD neg]
def Re.xL:List Re→List (List D)
 |[]=>[]
 |k::l=>k.cells::Re.xL l
end
theorem Re.Au:∀l:List Re,Re.xL l=l.map Re.cells
 |[]=>by simp [Re.xL]
 |k::l=>by simp [Re.xL,Re.Au l]
theorem Re.ae (re:Re):re.cells=[iD re.op,.sl (re.set.map aT),.sl (re.kids.map Re.cells),iD re.mn,iD re.mx,iD re.mode,iD re.n,bD re.neg]:=by
 cases re;simp [Re.cells,Re.Au,Re.op,Re.set,Re.kids,Re.mn,Re.mx,Re.mode,Re.n,Re.neg]
theorem Re.gm (re:Re):re.cells.length=8:=by rw[Re.ae];rfl
def lk (re:Re):V:=.ag (re.cells.map .d)
theorem xi (re:Re):(re.cells.map V.d).take 8=re.cells.map V.d:=Xv (by simp [Re.gm])
theorem w6 (re:Re):(re.cells.map V.d).drop 8=[]:=List.drop_of_length_le (by simp [Re.gm])
theorem BZ (re:Re):V.ag (re.cells.map V.d)=lk re:=rfl
theorem ay (re:Re):lk re=.ag [.d (iD re.op),.d (.sl (re.set.map aT)),.d (.sl (re.kids.map Re.cells)),.d (iD re.mn),.d (iD re.mx),.d (iD re.mode),.d (iD re.n),.d (bD re.neg)]:=by
 rw[lk,Re.ae];rfl
theorem bK (ρ:List Nat) (re:Re):bF ρ (lk re)=lk re:=by rw[ay];rfl
def bT (re:Re):V:=.d (.el re.cells)
mutual
def Re.size:Re→Nat
 |.mk _ _ kids _ _ _ _ _=>1+Re.dL kids
def Re.dL:List Re→Nat
 |[]=>0
 |k::l=>k.size+Re.dL l
end
theorem Re.size_eq (re:Re):re.size=1+Re.dL re.kids:=by cases re;simp [Re.size,Re.kids]
theorem Re.size_pos (re:Re):0<re.size:=by rw[Re.size_eq];omega
theorem Re.uo:∀{l:List Re}{k:Re},k∈l→k.size≤Re.dL l
 |k'::l,k,h=>by
  simp only[Re.dL]
  rcases List.mem_cons.1 h with rfl|h
  ·omega
  ·have:=Re.uo h;omega
theorem Re.gG {re k:Re} (h:k∈re.kids):k.size<re.size:=by
 have:=Re.uo h
 rw[Re.size_eq re];omega
theorem Re.pN:∀l:List Re,l.length≤Re.dL l
 |[]=>by simp
 |k::l=>by simp only[W3,Re.dL];have:=Re.pN l;have:=k.size_pos;omega
theorem dZ {α:Type}{l:List α}{i:Nat}{x:α} (h:l[i]?=some x):l.take (i+1)=l.take i++[x]:=by
 rw[List.take_add_one,h];rfl
theorem Re.kY:∀a b:List Re,Re.dL (a++b)=Re.dL a+Re.dL b
 |[],b=>by simp [Re.dL]
 |k::l,b=>by simp only[WR,Re.dL,Re.kY l b];omega
theorem Re.EZ (l:List Re) (i:Nat):Re.dL (l.take i)≤Re.dL l:=by
 conv=>rhs;rw[← List.take_append_drop i l]
 rw[Re.kY];omega
theorem xj (re:Re):ep (lk re)=some (re.cells.map V.d):=rfl
theorem mapM_some {α β:Type} (f:α→Option β) (g:β→α) (h:∀x,f (g x)=some x):∀l:List β,(l.map g).mapM f=some l
 |[]=>rfl
 |x::l=>by rw[WU,X5,h,mapM_some f g h l];rfl
theorem DJ (cs:List D):(cs.map V.d).mapM IG=some cs:=mapM_some IG V.d (fun _=>rfl) cs
theorem EO (n cE:Nat) (s:List VL.Obj) (x:D):bN n cE s (.d x)=some x:=by cases n <;> rfl
theorem ln (n cE:Nat) (s:List VL.Obj) (cs:List D):(cs.map V.d).mapM (bN n cE s)=some cs:=mapM_some (bN n cE s) V.d (EO n cE s) cs
theorem nF (n cE:Nat) (s:List VL.Obj) (l:List (List D)):(l.map fun c=>c.map V.d).mapM (fun (e:List V)=>e.mapM (bN n cE s))=some l:=mapM_some (fun (e:List V)=>e.mapM (bN n cE s)) (fun c=>c.map V.d) (ln n cE s) l
theorem Re.ind {Q:Re→Prop} (h:∀re,(∀k∈re.kids,Q k)→Q re) (re:Re):Q re:=by
 induction hn:re.size using Nat.strongRecOn generalizing re with
 |_ n ih=>exact h re fun k hk=>ih k.size (by have:=Re.gG hk;omega) k rfl
theorem zj:type_of% (
 And.intro @xj <|
 And.intro @DJ <|
 And.intro @ln <|
 And.intro @nF <|
 And.intro @EO <|
 And.intro @Re.gm <|
 And.intro @xi <|
 And.intro @w6 <|
 @BZ) :=
 And.intro @xj <|
 And.intro @DJ <|
 And.intro @ln <|
 And.intro @nF <|
 And.intro @EO <|
 And.intro @Re.gm <|
 And.intro @xi <|
 And.intro @w6 <|
 @BZ
theorem zX:type_of% (And.intro BU<|And.intro zj<|And.intro zl<|And.intro nL @dG.eq_1):=(And.intro BU<|And.intro zj<|And.intro zl<|And.intro nL @dG.eq_1)
theorem zW:type_of% (And.intro S9<|And.intro zj<|And.intro zl<|And.intro nL @dG.eq_1):=(And.intro S9<|And.intro zj<|And.intro zl<|And.intro nL @dG.eq_1)
theorem zU:type_of% (And.intro @zV<|And.intro @List.contains_cons.{0}<|And.intro @List.contains_nil.{0}<|And.intro X7<|And.intro Xj<|And.intro Bool.or_true<|And.intro Xq<|And.intro @bW.eq_1<|And.intro @ll<|And.intro @jO<|And.intro @ba<|And.intro @if_true.{1} @if_false.{1}):=(And.intro @zV<|And.intro @List.contains_cons.{0}<|And.intro @List.contains_nil.{0}<|And.intro X7<|And.intro Xj<|And.intro Bool.or_true<|And.intro Xq<|And.intro @bW.eq_1<|And.intro @ll<|And.intro @jO<|And.intro @ba<|And.intro @if_true.{1} @if_false.{1})
theorem HY (cE:Nat) (re:Re):ao cE (lk re)=true:=by
 unfold lk;rw[ao,Ex]
theorem FM (re:Re):re.size≤1000000000→br prog 76 [lk re] (i64 re.size):=by
 induction re using Re.ind with
 |h re ih =>
 intro hs
 have hlen:=Re.pN re.kids
 have iB:=Re.size_eq re
 refine aw func76 rfl ntmps76 results76 rfl 0 31 (by simp) (by simp) ?_
 simp only[zW,simprocAttr,ay re,iD,bD]
 refine aX (fun n e s=>∃i:Nat,n=re.kids.length-i∧i≤re.kids.length∧e 1=.rf 0 0 0 0∧e 3=i64 (1+Re.dL (re.kids.take i):Nat)∧e 4=i64 i∧s=[⟨0,true,8,[re.cells.map .d]⟩]) ⟨_,_,_,dw.refl,0,rfl,by simp,rfl,rfl,rfl,by simp [Re.ae re,iD,bD]⟩ ?_
 rintro n e s ⟨i,rfl,hi,h1,h3,h4,rfl⟩
 rcases Xw i re.kids.length with aS|lW
 ·obtain⟨k,hk⟩:∃k,re.kids[i]?=some k:=⟨_,WZ aS⟩
  have hm:=W6 hk
  have Ns:=Re.gG hm
  simp only[zW,simprocAttr,Re.ae re,iD,bD,h1,h3,h4,i64,aS,hk]
  refine aD (ih k hm (by omega)) (by simp [ao,ao.go,ay,i64,bV,bT]) (by simp [ao,ao.go,ay,i64,bV,bT]) ?_
  have h5:=Re.EZ re.kids (i+1)
  rw[dZ hk,Re.kY]at h5
  simp only[Re.dL]at h5
  simp only[zW,simprocAttr,Re.ae re,iD,bD,h1,h3,h4,i64,aS,hk]
  refine⟨_,_,_,?_,dw.refl,i+1,rfl,aS,?_⟩
  ·omega
  simp only[bW,Nat.reduceEqDiff,if_true,if_false]
  refine⟨h1,?_,?_,by simp [Re.ae re,iD,bD]⟩
  ·rw[bU _ (by omega),dZ hk,Re.kY];simp only[Re.dL,i64];congr 3;omega
  ·rw[bU _ (by omega)];rfl
 ·have iQ:i=re.kids.length:=by omega
  subst iQ
  simp only[zW,simprocAttr,Re.ae re,iD,bD,h1,h3,h4,i64,XP]
  simp [iB]
theorem mix:prog.follows .mixedOrders=true:=by rfl
def jX (n:Int):Prop:=-9223372036854775808≤n∧n≤9223372036854775807
def xh (n ah:Int):Int:=if n<0 then (-(n+1)).tmod ah else n.tmod ah
theorem Ip (n m:Int) (hm:1≤m) (hn:jX n):br prog 48 [i64 n,i64 m] (i64 (xh n m)):=by
 unfold jX at hn
 refine aw func48 rfl ntmps48 results48 rfl 0 19 (by simp) (by simp) ?_
 simp only[S9,zj,zl,dG,simprocAttr,i64]
 refine⟨fun h=>⟨by omega,?_⟩,fun h=>⟨by omega,?_⟩⟩
 ·rw[bU (n+1) (by omega),bU _ (by omega)]
  simp [xh,h]
 ·simp [xh,h]
def pick (l:List Int) (i:Int) (ah:Int):Int:=if i<0∨l.length≤i then 0 else xh (l[i.toNat]?.getD 0) ah
theorem Gf (l:List Int) (hl:∀x∈l,jX x) (i m:Int) (hm:1≤m):br prog 29 [.d (aB l),i64 i,i64 m] (i64 (pick l i m)):=by
 refine aw func29 rfl ntmps29 results29 rfl 0 71 (by simp) (by simp) ?_
 by_cases h0:i<0
 ·simp only[zW,simprocAttr,i64,aB,iD,h0]
  simp [h0,pick]
 ·by_cases h1:(l.length:Int)≤i
  ·simp only[zW,simprocAttr,i64,aB,iD,h0,h1,ge_iff_le]
   simp [h0,pick];omega
  ·have aS:i.toNat<l.length:=by omega
   obtain⟨x,hx⟩:∃x,l[i.toNat]?=some x:=⟨_,WZ aS⟩
   simp only[zW,simprocAttr,i64,aB,iD,h0,h1,ge_iff_le,hx,show 0≤i by omega,show i<l.length by omega]
   refine aD (Ip x m hm (hl x (W6 hx))) rfl rfl ?_
   simp only[zW,simprocAttr,i64]
   simp [h0,pick,hx];omega
structure Mk where
 l:List Int
 pos:Int
 cL:Int
 left:Int
 ak:Int
def bY (m:Mk):VL.Obj:=⟨0,true,5,[[.d (aB m.l),i64 m.pos,i64 m.cL,i64 m.left,i64 m.ak]]⟩
def ct:V:=.rf 0 0 0 0
structure Mk.ok (m:Mk):Prop where
 l:∀x∈m.l,jX x
 pos:0≤m.pos∧m.pos≤1000000000
 left:-1000000000≤m.left∧m.left≤1000000000
 ak:0≤m.ak∧m.ak≤1000000000
def Mk.next (m:Mk) (n:Int):Int×Mk:=(pick m.l m.pos n,{ m with pos:=m.pos+1 })
theorem b8 (m:Mk) (hl:∀x∈m.l,jX x) (hp:0≤m.pos∧m.pos≤1000000000) (n:Int) (hn:1≤n):av prog 43 [ct,i64 n] [bY m] fun v s=>v=i64 (m.next n).1∧s=[bY (m.next n).2]:=by
 have w1:IntKind.i64.wrap (m.pos+1)=m.pos+1:=bU _ (by omega)
 have w2:IntKind.i64.wrap (m.pos+1-1)=m.pos:=by rw[bU _ (by omega)];omega
 refine aw func43 rfl ntmps43 results43 rfl 1 19 (by simp) (by simp) ?_
 simp only[zW,simprocAttr,i64,ct,bY,w1,w2]
 refine aq mix [] [] (by rfl) ?_
 simp only[zW,simprocAttr,i64,ct,bY,w1,w2]
 refine cP (Gf m.l hl m.pos n hn) rfl rfl ?_
 simp only[zW,simprocAttr,i64,ct,bY,w1,w2,Mk.next]
def nJ:List (List (Int×Int)):=[[(97,97)],[(98,98)],[(97,98)],[(99,99)],[(97,99)],[(0,96),(98,255)],[(10,10),(97,97)],[]]
def Re.Jb (set:List (Int×Int)):Re:=.mk 1 set [] 0 0 0 0 false
def Mk.set (m:Mk):Re×Mk :=
 let (k,m1):=m.next 15
 (Re.Jb ((nJ[(k / 2).toNat]?).getD []),m1)
theorem cB (l:List Int) (i m:Int) (hm:1≤m):0≤pick l i m∧pick l i m<m:=by
 unfold pick xh
 split
 ·omega
 ·split
  ·rename_i h
   have h1:0≤-(l[i.toNat]?.getD 0+1):=by omega
   exact⟨Int.tmod_nonneg _ h1,Int.tmod_lt_of_pos _ (by omega)⟩
  ·rename_i h
   exact⟨Int.tmod_nonneg _ (by omega),Int.tmod_lt_of_pos _ (by omega)⟩
theorem im (m:Mk) (hl:∀x∈m.l,jX x) (hp:0≤m.pos∧m.pos≤1000000000):av prog 44 [ct] [bY m] fun v s=>v=lk m.set.1∧s=[bY m.set.2]:=by
 have hk:=cB m.l m.pos 15 (by omega)
 have hd:(pick m.l m.pos 15).tdiv 2=pick m.l m.pos 15 / 2:=by rw[Int.tdiv_eq_ediv_of_nonneg hk.1]
 have w1:IntKind.i64.wrap (pick m.l m.pos 15 / 2)=pick m.l m.pos 15 / 2:=bU _ (by omega)
 refine aw func44 rfl ntmps44 results44 rfl 1 13 (by simp) (by simp) ?_
 simp only[zW,simprocAttr,i64,ct]
 refine aL (b8 m hl hp 15 (by omega)) rfl rfl rfl rfl rfl rfl ?_
 have hc:pick m.l m.pos 15 / 2=0∨pick m.l m.pos 15 / 2=1∨pick m.l m.pos 15 / 2=2∨pick m.l m.pos 15 / 2=3∨pick m.l m.pos 15 / 2=4∨pick m.l m.pos 15 / 2=5∨pick m.l m.pos 15 / 2=6∨pick m.l m.pos 15 / 2=7:=by omega
 simp only[zW,simprocAttr,i64,ct,Mk.next,hd,w1]
 rcases hc with hc|hc|hc|hc|hc|hc|hc|hc <;> (simp only[zW,simprocAttr,hc,Mk.set,Mk.next,nJ,Re.Jb,Int.toNat_zero,lk,Re.cells];first|exact⟨by omega,rfl,rfl⟩|exact⟨rfl,rfl⟩|rfl)
mutual
def Re.vl:Re→Bool
 |.mk op _ kids mn _ _ _ _=>if op=1 then false else if op=2 then Re.rW kids else if op=3∨op=10 then Re.pb kids else if op=4 then decide (mn≤0)||Re.vT kids else if op=5∨op=9 then Re.vT kids else true
def Re.rW:List Re→Bool
 |[]=>true
 |k::l=>k.vl&&Re.rW l
def Re.pb:List Re→Bool
 |[]=>false
 |k::l=>k.vl||Re.pb l
def Re.vT:List Re→Bool
 |[]=>false
 |k::_=>k.vl
end
theorem Re.r8 (re:Re):re.vl=if re.op=1 then false else if re.op=2 then Re.rW re.kids else if re.op=3∨re.op=10 then Re.pb re.kids else if re.op=4 then decide (re.mn≤0)||Re.vT re.kids else if re.op=5∨re.op=9 then Re.vT re.kids else true:=by
 cases re;simp only[Re.vl,Re.op,Re.kids,Re.mn];rfl
theorem Re.sd:∀l:List Re,Re.rW l=l.all Re.vl
 |[]=>rfl
 |k::l=>by simp [Re.rW,Re.sd l]
theorem Re.si:∀l:List Re,Re.pb l=l.any Re.vl
 |[]=>rfl
 |k::l=>by simp [Re.pb,Re.si l]
theorem nh {α:Type}{l:List α}{i:Nat}{k x:α} (h:l[i]?=some k) (hx:x∈l.take (i+1)):x∈l.take i∨x=k:=by
 rw[dZ h]at hx
 simpa using hx
theorem lS (re:Re):re.size≤1000000000→br prog 75 [lk re] (bV re.vl):=by
 induction re using Re.ind with
 |h re ih =>
 intro hs
 have hlen:=Re.pN re.kids
 have iB:=Re.size_eq re
 refine aw func75 rfl ntmps75 results75 rfl 0 576460752336978015 (by simp) (by simp) ?_
 by_cases o1:re.op=1
 ·simp only[zW,simprocAttr,ay re,iD,bD,bV,o1,Re.r8 re]
 by_cases o2:re.op=2
 ·simp only[zW,simprocAttr,ay re,iD,bD,bV,o2]
  refine aX (fun n e s=>∃i:Nat,n=re.kids.length-i∧i≤re.kids.length∧e 1=.rf 0 0 0 0∧e 3=i64 i∧(∀x∈re.kids.take i,x.vl=true)∧s=[⟨0,true,8,[re.cells.map .d]⟩]) ⟨_,_,_,dw.refl,0,rfl,by simp,rfl,rfl,by simp,by simp [Re.ae re,iD,bD,o2]⟩ ?_
  rintro n e s ⟨i,rfl,hi,h1,h3,hn,rfl⟩
  rcases Xw i re.kids.length with aS|lW
  ·obtain⟨k,hk⟩:∃k,re.kids[i]?=some k:=⟨_,WZ aS⟩
   have hm:=W6 hk
   have Ns:=Re.gG hm
   simp only[zW,simprocAttr,Re.ae re,iD,bD,h1,h3,i64,aS,hk]
   refine aD (ih k hm (by omega)) (by simp [ao,ao.go,ay,i64,bV,bT]) (by simp [ao,ao.go,ay,i64,bV,bT]) ?_
   cases uY:k.vl with
   |false =>
    simp only[zW,simprocAttr,bV,uY]
    have:Re.rW re.kids=false:=by rw[Re.sd,List.all_eq_false];exact⟨k,hm,by simp [uY]⟩
    simp [Re.r8 re,o2,this]
   |true =>
    simp only[zW,simprocAttr,bV,uY,h3,i64]
    refine⟨_,_,_,?_,dw.refl,i+1,rfl,aS,?_⟩
    ·omega
    simp only[bW,Nat.reduceEqDiff,if_true,if_false]
    refine⟨h1,?_,fun x hx=>?_,by simp [Re.ae re,iD,bD]⟩
    ·rw[bU _ (by omega)];rfl
    ·rcases nh hk hx with h|rfl
     ·exact hn x h
     ·exact uY
  ·have iQ:i=re.kids.length:=by omega
   subst iQ
   simp only[zW,simprocAttr,Re.ae re,iD,bD,h1,h3,i64,XP,bV]
   have:Re.rW re.kids=true:=by rw[Re.sd,Xn];simpa using hn
   simp [Re.r8 re,o2,this]
 by_cases o3:re.op=3∨re.op=10
 ·have hr:re.vl=Re.pb re.kids:=by simp [Re.r8 re,o1,o2,o3]
  rcases o3 with o3|o3
  all_goals
   simp only[zW,simprocAttr,ay re,iD,bD,bV,o1,o2,o3]
   refine aX (fun n e s=>∃i:Nat,n=re.kids.length-i∧i≤re.kids.length∧e 1=.rf 0 0 0 0∧e 4=i64 i∧(∀x∈re.kids.take i,x.vl=false)∧s=[⟨0,true,8,[re.cells.map .d]⟩]) ⟨_,_,_,dw.refl,0,rfl,by simp,rfl,rfl,by simp,by simp [Re.ae re,iD,bD,o3]⟩ ?_
   rintro n e s ⟨i,rfl,hi,h1,h3,hn,rfl⟩
   rcases Xw i re.kids.length with aS|lW
   ·obtain⟨k,hk⟩:∃k,re.kids[i]?=some k:=⟨_,WZ aS⟩
    have hm:=W6 hk
    have Ns:=Re.gG hm
    simp only[zW,simprocAttr,Re.ae re,iD,bD,h1,h3,i64,aS,hk]
    refine aD (ih k hm (by omega)) (by simp [ao,ao.go,ay,i64,bV,bT]) (by simp [ao,ao.go,ay,i64,bV,bT]) ?_
    cases uY:k.vl with
    |true =>
     simp only[zW,simprocAttr,bV,uY]
     have:Re.pb re.kids=true:=by rw[Re.si,List.any_eq_true];exact⟨k,hm,by simp [uY]⟩
     simp [hr,this]
    |false =>
     simp only[zW,simprocAttr,bV,uY,h3,i64]
     refine⟨_,_,_,?_,dw.refl,i+1,rfl,aS,?_⟩
     ·omega
     simp only[bW,Nat.reduceEqDiff,if_true,if_false]
     refine⟨h1,?_,fun x hx=>?_,by simp [Re.ae re,iD,bD]⟩
     ·rw[bU _ (by omega)];rfl
     ·rcases nh hk hx with h|rfl
      ·exact hn x h
      ·exact uY
   ·have iQ:i=re.kids.length:=by omega
    subst iQ
    simp only[zW,simprocAttr,Re.ae re,iD,bD,h1,h3,i64,XP,bV]
    have:Re.pb re.kids=false:=by rw[Re.si,List.any_eq_false];simpa using hn
    simp [hr,this]
 have PT:¬re.op=3:=fun h=>o3 (.inl h)
 have oS:¬re.op=10:=fun h=>o3 (.inr h)
 by_cases o4:re.op=4
 ·have hr:re.vl=(decide (re.mn≤0)||Re.vT re.kids):=by simp [Re.r8 re,o4]
  by_cases hmn:re.mn≤0
  ·simp only[zW,simprocAttr,ay re,iD,bD,bV,o1,o2,PT,oS,o4,hmn]
   simp [hr,hmn]
  cases hk:re.kids with
  |nil =>
   simp only[zW,simprocAttr,ay re,iD,bD,bV,o1,o2,PT,oS,o4,hmn,hk,WV]
   simp [hr,hmn,hk,Re.vT]
  |cons k l =>
   have hm:k∈re.kids:=by simp [hk]
   have Ns:=Re.gG hm
   have dC:(0:Int)<((l.length+1:Nat):Int):=by omega
   simp only[zW,simprocAttr,ay re,iD,bD,bV,o1,o2,PT,oS,o4,hmn,hk,WU,dC]
   refine aD (ih k hm (by omega)) (by simp [ao,ao.go,ay,i64,bV,bT]) (by simp [ao,ao.go,ay,i64,bV,bT]) ?_
   cases uY:k.vl with
   |true =>
    simp only[zW,simprocAttr,bV,uY]
    simp [hr,hmn,hk,Re.vT,uY]
   |false =>
    simp only[zW,simprocAttr,bV,uY]
    simp [hr,hmn,hk,Re.vT,uY]
 by_cases o5:re.op=5∨re.op=9
 ·have hr:re.vl=Re.vT re.kids:=by simp [Re.r8 re,o1,o2,o3,o4,o5]
  rcases o5 with o5|o5
  all_goals
   cases hk:re.kids with
   |nil =>
    simp only[zW,simprocAttr,ay re,iD,bD,bV,o1,o2,PT,oS,o4,o5,hk,WV]
    simp [hr,hk,Re.vT]
   |cons k l =>
    have hm:k∈re.kids:=by simp [hk]
    have Ns:=Re.gG hm
    have dC:(0:Int)<((l.length+1:Nat):Int):=by omega
    simp only[zW,simprocAttr,ay re,iD,bD,bV,o1,o2,PT,oS,o4,o5,hk,WU,dC]
    refine aD (ih k hm (by omega)) (by simp [ao,ao.go,ay,i64,bV,bT]) (by simp [ao,ao.go,ay,i64,bV,bT]) ?_
    cases uY:k.vl with
    |true =>
     simp only[zW,simprocAttr,bV,uY]
     simp [hr,hk,Re.vT,uY]
    |false =>
     simp only[zW,simprocAttr,bV,uY]
     simp [hr,hk,Re.vT,uY]
 have VF:¬re.op=5:=fun h=>o5 (.inl h)
 have o9:¬re.op=9:=fun h=>o5 (.inr h)
 simp only[zW,simprocAttr,ay re,iD,bD,bV,o1,o2,PT,oS,o4,VF,o9]
 simp [Re.r8 re,o1,o2,o3,o4,o5]
def NL (a b:Int):Int:=if a<0∨b<0 then -1 else min (IntKind.i64.wrap (a+b)) 1000000
def JZ (a b:Int):Int:=if a<0∨b<0 then -1 else max a b
def Jp (a b:Int):Int:=if a=0∨b=0 then 0 else if a<0∨b<0 then -1 else min (IntKind.i64.wrap (a*b)) 1000000
def R7 (l:List (Int×Int)):Int×Int:=l.foldl (fun a k=>(NL a.1 k.1,NL a.2 k.2)) (0,0)
def EI (a k:Int×Int):Int×Int:=(min a.1 k.1,JZ a.2 k.2)
def OS:List (Int×Int)→Int×Int
 |[]=>(0,0)
 |k::l=>l.foldl EI (EI k k)
def OO (op mn mx:Int) (l:List (Int×Int)):Int×Int :=
 if op=1 then (1,1)
 else if op=6 then (0,-1)
 else if op=2 then R7 l
 else if op=3∨op=10∨op=4∨op=5∨op=9 then
  (if op=4 then (Jp (OS l).1 mn,Jp (OS l).2 mx) else OS l)
 else (0,0)
mutual
def Re.lens:Re→Int×Int
 |.mk op _ kids mn mx _ _ _=>OO op mn mx (Re.C4 kids)
def Re.C4:List Re→List (Int×Int)
 |[]=>[]
 |k::l=>k.lens::Re.C4 l
end
theorem Re.K4:∀l:List Re,Re.C4 l=l.map Re.lens
 |[]=>by simp [Re.C4]
 |k::l=>by simp [Re.C4,Re.K4 l]
mutual
def Re.fA:Re→Bool
 |.mk _ set kids _ _ _ _ _=>decide (set.length≤1000000000)&&(decide (kids.length≤1000000000)&&Re.GW kids)
def Re.GW:List Re→Bool
 |[]=>true
 |k::l=>k.fA&&Re.GW l
end
theorem Re.Aw:∀l:List Re,Re.GW l=l.all Re.fA
 |[]=>rfl
 |k::l=>by simp [Re.GW,Re.Aw l]
theorem Re.B4 (re:Re):re.fA=true ↔ re.set.length≤1000000000∧re.kids.length≤1000000000∧∀k∈re.kids,k.fA=true:=by
 cases re with
 |mk op set kids mn mx mode n neg=>simp only[Re.fA,W7,decide_eq_true_eq,Re.Aw,Xn,Re.set,Re.kids]
theorem Re.gR {re:Re} (h:re.fA=true):re.set.length≤1000000000∧re.kids.length≤1000000000∧∀k∈re.kids,k.fA=true:=(Re.B4 re).1 h
end Go.Proofs.YtmihcpdhcillaaaGreat
namespace Go.Proofs.YtmihcpdhcillaaaGreat
open Go.VL Go.Proofs.Tryz
theorem nz (n cE:Nat) (s:List VL.Obj) (ds:List (List D)) (k:Nat) (hk:ds.length≤k):((ds.map fun c=>c.map V.d).take k).mapM (fun (e:List V)=>e.mapM (bN n cE s))=some ds:=by
 rw[Xv (by simpa using hk),nF]
theorem yZ (l:List (Int×Int)) (hl:l.length≤1000000000):br prog 36 [.d (.sl (l.map aT))] (.d (.sl (l.map aT))):=by
 refine aw func36 rfl ntmps36 results36 rfl 0 5 (by simp) (by simp) ?_
 cases l with
 |nil =>
  simp only[zW,simprocAttr,]
  exact⟨⟨_,rfl⟩,by simp,by simp⟩
 |cons x l =>
  simp only[zW,simprocAttr,]
  have he:(List.map V.d (aT x)::List.map (fun x=>List.map V.d x) (List.map aT l))=((x::l).map aT).map (fun c=>c.map V.d):=rfl
  simp only[W3]at hl
  refine⟨⟨_,rfl⟩,?_,⟨by omega,by simp⟩,?_⟩
  ·rw[he];intro e hm
   obtain⟨c,hc,rfl⟩:=List.mem_map.1 hm
   obtain⟨y,_,rfl⟩:=List.mem_map.1 hc
   rfl
  ·rw[he,nz 7 0 _ _ (0+(l.length+1)) (by simp),if_pos (by omega)]
   rfl
end Go.Proofs.YtmihcpdhcillaaaGreat
namespace Go.Proofs.YtmihcpdhcillaaaGreat
open Go.VL Go.Proofs.Tryz
def lG (c:Int):VL.Obj:=⟨0,true,1,[[i64 c]]⟩
mutual
def Re.depth:Re→Int
 |.mk _ _ kids _ _ _ _ _=>Re.xb kids 0+1
def Re.xb:List Re→Int→Int
 |[],a=>a
 |k::l,a=>Re.xb l (max a k.depth)
end
def rN (l:List Int):Int:=l.foldl max 0
theorem Re.An:∀(l:List Re) (a:Int),Re.xb l a=(l.map Re.depth).foldl max a
 |[],a=>by simp [Re.xb]
 |k::l,a=>by simp [Re.xb,Re.An l]
theorem Re.py (re:Re):re.depth=rN (re.kids.map Re.depth)+1:=by
 cases re;simp [Re.depth,Re.An,Re.kids,rN]
theorem HQ (l:List Int) (k:Int):rN (l++[k])=max (rN l) k:=by simp [rN,List.foldl_append]
theorem kK {b:Int}:∀(l:List Int) (a:Int),a≤b→(∀x∈l,x≤b)→l.foldl max a≤b
 |[],a,h,_=>h
 |x::l,a,h,hl=>kK l (max a x) (by have:=hl x (by simp);omega) (fun y hy=>hl y (by simp [hy]))
theorem kW:∀(l:List Int) (a:Int),a≤l.foldl max a
 |[],a=>WW _
 |x::l,a=>Int.le_trans (by omega) (kW l (max a x))
theorem Re.Cn (re:Re):0≤re.depth∧re.depth≤re.size:=by
 refine Re.ind (Q:=fun re=>0≤re.depth∧re.depth≤re.size) (fun re ih=>?_) re
 rw[Re.py,Re.size_eq]
 have h1:=kW (re.kids.map Re.depth) 0
 have h2:rN (re.kids.map Re.depth)≤(Re.dL re.kids:Nat):=kK _ _ (by omega) (fun x hx=>by
  obtain⟨k,hk,rfl⟩:=List.mem_map.1 hx
  have:=Re.uo hk
  have:=(ih k hk).2
  omega)
 unfold rN at *
 omega
theorem D0 (re:Re) (hs:re.size≤1000000000):br prog 77 [lk re] (i64 re.depth):=by
 revert hs
 refine Re.ind (Q:=fun re=>re.size≤1000000000→br prog 77 [lk re] (i64 re.depth)) (fun re ih hs=>?_) re
 have hlen:=Re.pN re.kids
 have iB:=Re.size_eq re
 have hd:=Re.Cn re
 rw[Re.py]at hd ⊢
 refine aw func77 rfl ntmps77 results77 rfl 0 31 (by simp) (by simp) ?_
 simp only[zW,simprocAttr,i64,ay re,iD,bD]
 refine aX (fun n e s=>∃i:Nat,n=re.kids.length-i∧i≤re.kids.length∧e 1=.rf 0 0 0 0∧e 3=i64 (rN ((re.kids.take i).map Re.depth))∧e 4=i64 i∧s=[⟨0,true,8,[re.cells.map .d]⟩])
  ⟨_,_,_,dw.refl,0,rfl,by omega,rfl,rfl,rfl,by rw[Re.ae re];rfl⟩ ?_
 rintro n e s ⟨i,rfl,hi,h1,h3,h4,rfl⟩
 rcases Xw i re.kids.length with aS|lW
 ·obtain⟨k,hk⟩:∃k,re.kids[i]?=some k:=⟨_,WZ aS⟩
  have hm:=W6 hk
  have Ns:=Re.gG hm
  simp only[zW,simprocAttr,i64,Re.ae re,iD,bD,h1,h3,h4,aS,hk]
  refine aD (ih k hm (by omega)) (by simp [ao,ao.go,ay,i64,bV,bT]) (by simp [ao,ao.go,ay,i64,bV,bT]) ?_
  simp only[zW,simprocAttr,i64,Re.ae re,iD,bD,h1,h3,h4]
  refine⟨re.kids.length-(i+1),_,_,by omega,dw.refl,i+1,rfl,aS,?_,?_,?_,rfl⟩ <;> (try simp only[zU,Nat.reduceBEq,Nat.reduceShiftRight,Nat.reduceMod,Nat.reduceEqDiff,reduceIte])
  ·exact h1
  ·rw[dZ hk,XC,WU,WV,HQ]
  ·rw[bU _ (by omega)];rfl
 ·have iQ:i=re.kids.length:=by omega
  subst iQ
  rw[XA]at h3
  have w1:IntKind.i64.wrap (rN (re.kids.map Re.depth)+1)=rN (re.kids.map Re.depth)+1:=bU _ (by omega)
  simp only[zW,simprocAttr,i64,Re.ae re,iD,bD,h1,h3,h4,XP,w1]
  all_goals first|exact⟨rfl,rfl⟩|exact⟨rfl,trivial⟩|rfl|trivial|(rw[ay];rfl)
theorem vn {P:Program}{f:FuncId}{args:List V}{s:List VL.Obj}{K1 K:V→List VL.Obj→Prop} (h:av P f args s K1)
  (hw:∀v s1,K1 v s1→∀σ w u,Inv σ s1 w→aI σ s1 w v u→∃σ2 s2 v2,aY σ s1 w σ2 s2 w∧Inv σ2 s2 w∧aI σ2 s2 w v2 u∧K v2 s2):av P f args s K:=by
 refine⟨h.1,fun σ w vals hI hl hv=>(h.2 σ w vals hI hl hv).mono fun e w' ⟨u,v,σ',s',h1,h2,h3,h4,h5⟩=>?_⟩
 obtain⟨σ2,s2,v2,k1,k2,k3,k4⟩:=hw v s' h5 σ' w' u h3 h4
 exact⟨u,v2,σ2,s2,h1,h2.trans k1,k2,k3,k4⟩
theorem rY {σ:Gh}{s:List VL.Obj}{w:World} (hI:Inv σ s w) {o:VL.Obj}{pre post:List V} (k sz:Nat) (ho:s[k]?=some o) (rk:o.aV=[pre++.fu []::post]) (iB:pre.length+1+post.length=o.sz) :
  ∃σ',aY σ s w σ' (s.set k { o with aV:=[pre++.so s.length 0 0 0::post] }++[⟨0,true,sz,[]⟩]) w∧Inv σ' (s.set k { o with aV:=[pre++.so s.length 0 0 0::post] }++[⟨0,true,sz,[]⟩]) w:=by
 have hk:=(List.getElem?_eq_some_iff.1 ho).1
 have hp:=lz (p:=none) (o':=⟨0,true,sz,[]⟩) (w':=w) hI rfl rfl rfl (W4 _) (fun _ _=>rfl) (fun _ _ h'=>by cases h') (fun _=>.inl (.inl ⟨rfl,rfl⟩))
 have Qp:(s++[(⟨0,true,sz,[]⟩:VL.Obj)])[k]?=some o:=by rw[Xg hk];exact ho
 have hr:=JY hp.2 (els':=[pre++.so s.length 0 0 0::post]) Qp (by intro e he;rw[List.mem_singleton.1 he];simp;omega) (by rw[rk];rfl) (by
  intro es he
  rw[rk]at he
  have hm:(pre++.fu []::post)∈jQ es:=by rw[← he];exact List.mem_singleton.2 rfl
  unfold jQ at hm
  obtain⟨x,_,hx⟩:=List.mem_map.1 hm
  have hf:V.fu []∈[V.d (.sc x.key),V.d (.sc x.val)]:=by rw[hx];simp
  simp at hf) (fun i j x' hx=>by
  rw[rk]
  cases i with
  |succ i=>simp at hx
  |zero =>
   simp only[W9,XH]at hx ⊢
   by_cases hj:j=pre.length
   ·subst hj
    rw[Xm (W4 _),X3]at hx ⊢
    simp only[W9,WX]at hx ⊢
    subst hx
    refine⟨_,rfl,fun u hu=>?_⟩
    cases hu with|fu hx=>?_
    exact .so ⟨0,true,sz,[]⟩ (by simp) (W4 _) rfl (fun _=>.inl ⟨cw _ _ _,⟨_,rfl⟩,rfl,rfl⟩)
   ·refine⟨x',?_,fun u hu=>hu⟩
    rcases Xw j pre.length with aS|lW
    ·rw[Xg aS]at hx ⊢;exact hx
    ·rw[Xm lW]at hx ⊢
     cases hm:j-pre.length with
     |zero=>omega
     |succ m=>rw[hm]at hx;simpa using hx)
 have cC:(s++[(⟨0,true,sz,[]⟩:VL.Obj)]).set k { o with aV:=[pre++.so s.length 0 0 0::post] }=s.set k { o with aV:=[pre++.so s.length 0 0 0::post] }++[⟨0,true,sz,[]⟩]:=by
  rw[List.set_append_left _ _ hk]
 rw[cC]at hr
 exact⟨_,hp.1.trans hr.1,hr.2⟩
end Go.Proofs.YtmihcpdhcillaaaGreat
