/- A part of the proof (Ty Da Db F2 F3 F4 F5 F13 F15 F16 F30 F22 F31 F72 K0). -/
import Derived.Test.YtllagoeijcjpiaaRows
import Derived.KernelRfl
import Derived.Test.YtllagoeijcjpiaaBD1
import Derived.Test.YtllagoeijcjpiaaBD2
set_option linter.unusedSimpArgs false
set_option linter.unusedVariables false
set_option maxRecDepth 100000
set_option maxHeartbeats 80000000
namespace Go.Proofs.Ytllagoeijcjpiaa
open Go.VL Go.Proofs.Try
theorem Oi:iE prog 22=some (3,⟨1,false,8,[.int .i64 0]⟩):=by kernel_rfl
theorem NG:iE prog 49=some (89,⟨2,true,16,[.int .i64 0,.int .i64 0]⟩):=by kernel_rfl
theorem M8:iE prog 56=some (51,⟨3,true,40,[.int .i64 0,.int .i64 0,.slice none 0 0]⟩):=by kernel_rfl
theorem Pe:bS prog 1=some ⟨1,false,8,[.nilFunc]⟩∧bS prog 2=some ⟨1,false,8,[.int .i64 0]⟩∧prog.underlying 2=some (.int .i64)∧bS prog 3=some ⟨1,false,8,[.int .i64 0]⟩∧prog.underlying 3=some (.int .i64)∧bS prog 4=some ⟨1,false,1,[.bool false]⟩∧prog.underlying 4=some .bool∧bS prog 5=some ⟨1,false,1,[.int .u8 0]⟩∧prog.underlying 5=some (.int .u8)∧bS prog 7=some ⟨4,true,24,[.int .i64 0,.int .i64 0,.bool false,.int .u8 0]⟩∧aX prog 7 0=some 0∧aX prog 7 1=some 1∧aX prog 7 2=some 2∧aX prog 7 3=some 3∧bp prog 7=some [(0,1),(1,1),(2,1),(3,1)]∧bS prog 9=some ⟨1,false,16,[.string ⟨#[]⟩]⟩∧bS prog 12=some ⟨1,false,8,[.int .u64 0]⟩∧prog.underlying 12=some (.int .u64)∧bS prog 13=some ⟨2,true,24,[.string ⟨#[]⟩,.int .u64 0]⟩∧aX prog 13 0=some 0∧aX prog 13 1=some 1∧bp prog 13=some [(0,1),(1,1)]∧bS prog 15=some ⟨1,false,8,[.pointer none]⟩∧prog.underlying 15=some (.pointer 207)∧bS prog 16=some ⟨1,false,8,[.pointer none]⟩∧prog.underlying 16=some (.pointer 210)∧bS prog 17=some ⟨1,false,8,[.pointer none]⟩∧prog.underlying 17=some (.pointer 219)∧bS prog 18=some ⟨1,true,8,[.pointer none]⟩∧aX prog 18 0=some 0∧bp prog 18=some [(0,1)]∧bS prog 21=some ⟨1,false,4,[.int .i32 0]⟩∧prog.underlying 21=some (.int .i32)∧bS prog 22=some ⟨1,false,24,[.slice none 0 0]⟩∧A5 prog 22=some 1∧iE prog 22=some (3,⟨1,false,8,[.int .i64 0]⟩)∧prog.underlying 22=some (.slice 3)∧bS prog 23=some ⟨1,false,24,[.slice none 0 0]⟩∧A5 prog 23=some 2∧iE prog 23=some (77,⟨2,true,16,[.int .i64 0,.int .i64 0]⟩)∧prog.underlying 23=some (.slice 77)∧bS prog 24=some ⟨1,false,24,[.slice none 0 0]⟩∧A5 prog 24=some 8∧iE prog 24=some (26,⟨8,true,96,[.int .i64 0,.slice none 0 0,.slice none 0 0,.int .i64 0,.int .i64 0,.int .i64 0,.int .i64 0,.bool false]⟩)∧prog.underlying 24=some (.slice 26)∧bS prog 25=some ⟨8,true,96,[.int .i64 0,.slice none 0 0,.slice none 0 0,.int .i64 0,.int .i64 0,.int .i64 0,.int .i64 0,.bool false]⟩∧aX prog 25 0=some 0∧aX prog 25 1=some 1∧aX prog 25 2=some 2∧aX prog 25 3=some 3∧aX prog 25 4=some 4∧aX prog 25 5=some 5∧aX prog 25 6=some 6∧aX prog 25 7=some 7∧bp prog 25=some [(0,1),(1,1),(2,1),(3,1),(4,1),(5,1),(6,1),(7,1)]∧bS prog 26=some ⟨8,true,96,[.int .i64 0,.slice none 0 0,.slice none 0 0,.int .i64 0,.int .i64 0,.int .i64 0,.int .i64 0,.bool false]⟩∧aX prog 26 0=some 0∧aX prog 26 1=some 1∧aX prog 26 2=some 2∧aX prog 26 3=some 3∧aX prog 26 4=some 4∧aX prog 26 5=some 5∧aX prog 26 6=some 6∧aX prog 26 7=some 7∧bp prog 26=some [(0,1),(1,1),(2,1),(3,1),(4,1),(5,1),(6,1),(7,1)]∧bS prog 27=some ⟨10,true,112,[.int .i64 0,.slice none 0 0,.slice none 0 0,.int .i64 0,.int .i64 0,.int .i64 0,.int .i64 0,.bool false,.int .i64 0,.bool false]⟩∧aX prog 27 0=some 0∧aX prog 27 1=some 8∧aX prog 27 2=some 9∧bp prog 27=some [(0,8),(8,1),(9,1)]:=by and_intros <;> kernel_rfl
theorem Qa:bS prog 28=some ⟨10,true,112,[.int .i64 0,.slice none 0 0,.slice none 0 0,.int .i64 0,.int .i64 0,.int .i64 0,.int .i64 0,.bool false,.int .i64 0,.bool false]⟩∧aX prog 28 0=some 0∧aX prog 28 1=some 8∧aX prog 28 2=some 9∧bp prog 28=some [(0,8),(8,1),(9,1)]∧bS prog 29=some ⟨1,false,8,[.nilFunc]⟩∧bS prog 30=some ⟨1,false,8,[.nilFunc]⟩∧bS prog 31=some ⟨1,false,24,[.slice none 0 0]⟩∧A5 prog 31=some 1∧iE prog 31=some (22,⟨1,false,24,[.slice none 0 0]⟩)∧prog.underlying 31=some (.slice 22)∧bS prog 32=some ⟨1,false,8,[.nilFunc]⟩∧bS prog 33=some ⟨1,false,8,[.nilFunc]⟩∧bS prog 34=some ⟨1,false,8,[.nilFunc]⟩∧bS prog 35=some ⟨1,false,8,[.int .i64 0]⟩∧prog.underlying 35=some (.int .i64)∧bS prog 37=some ⟨1,false,8,[.nilFunc]⟩∧bS prog 38=some ⟨1,false,8,[.nilFunc]⟩∧bS prog 39=some ⟨1,false,8,[.nilFunc]⟩∧bS prog 40=some ⟨1,false,8,[.nilFunc]⟩∧bS prog 41=some ⟨1,false,8,[.nilFunc]⟩∧bS prog 42=some ⟨1,false,8,[.nilFunc]⟩∧bS prog 43=some ⟨1,false,8,[.nilFunc]⟩∧bS prog 45=some ⟨1,false,8,[.nilFunc]⟩∧bS prog 46=some ⟨1,false,8,[.pointer none]⟩∧prog.underlying 46=some (.pointer 87)∧bS prog 48=some ⟨1,false,8,[.nilFunc]⟩∧bS prog 49=some ⟨1,false,24,[.slice none 0 0]⟩∧A5 prog 49=some 2∧iE prog 49=some (89,⟨2,true,16,[.int .i64 0,.int .i64 0]⟩)∧prog.underlying 49=some (.slice 89)∧bS prog 50=some ⟨3,true,40,[.int .i64 0,.int .i64 0,.slice none 0 0]⟩∧aX prog 50 0=some 0∧aX prog 50 1=some 1∧aX prog 50 2=some 2∧bp prog 50=some [(0,1),(1,1),(2,1)]∧bS prog 51=some ⟨3,true,40,[.int .i64 0,.int .i64 0,.slice none 0 0]⟩∧aX prog 51 0=some 0∧aX prog 51 1=some 1∧aX prog 51 2=some 2∧bp prog 51=some [(0,1),(1,1),(2,1)]∧bS prog 53=some ⟨1,false,8,[.nilFunc]⟩∧bS prog 54=some ⟨1,false,8,[.nilFunc]⟩∧bS prog 55=some ⟨1,false,8,[.nilFunc]⟩∧bS prog 56=some ⟨1,false,24,[.slice none 0 0]⟩∧A5 prog 56=some 3∧iE prog 56=some (51,⟨3,true,40,[.int .i64 0,.int .i64 0,.slice none 0 0]⟩)∧prog.underlying 56=some (.slice 51)∧bS prog 58=some ⟨1,false,8,[.nilFunc]⟩∧bS prog 60=some ⟨1,false,8,[.nilFunc]⟩∧bS prog 61=some ⟨3,true,40,[.int .i64 0,.int .i64 0,.slice none 0 0]⟩∧aX prog 61 0=some 0∧aX prog 61 1=some 1∧aX prog 61 2=some 2∧bp prog 61=some [(0,1),(1,1),(2,1)]∧bS prog 62=some ⟨3,true,40,[.int .i64 0,.int .i64 0,.slice none 0 0]⟩∧aX prog 62 0=some 0∧aX prog 62 1=some 1∧aX prog 62 2=some 2∧bp prog 62=some [(0,1),(1,1),(2,1)]∧bS prog 63=some ⟨1,false,8,[.nilFunc]⟩∧bS prog 64=some ⟨1,false,8,[.nilFunc]⟩∧bS prog 65=some ⟨1,false,8,[.nilFunc]⟩∧bS prog 66=some ⟨1,false,8,[.pointer none]⟩∧prog.underlying 66=some (.pointer 68)∧bS prog 67=some ⟨5,true,56,[.slice none 0 0,.int .i64 0,.int .i64 0,.int .i64 0,.int .i64 0]⟩∧aX prog 67 0=some 0∧aX prog 67 1=some 1∧aX prog 67 2=some 2∧aX prog 67 3=some 3:=by and_intros <;> kernel_rfl
theorem Qi:aX prog 67 4=some 4∧bp prog 67=some [(0,1),(1,1),(2,1),(3,1),(4,1)]∧bS prog 68=some ⟨5,true,56,[.slice none 0 0,.int .i64 0,.int .i64 0,.int .i64 0,.int .i64 0]⟩∧aX prog 68 0=some 0∧aX prog 68 1=some 1∧aX prog 68 2=some 2∧aX prog 68 3=some 3∧aX prog 68 4=some 4∧bp prog 68=some [(0,1),(1,1),(2,1),(3,1),(4,1)]∧bS prog 69=some ⟨1,false,8,[.nilFunc]⟩∧bS prog 70=some ⟨1,false,8,[.nilFunc]⟩∧bS prog 71=some ⟨1,false,8,[.pointer none]⟩∧prog.underlying 71=some (.pointer 26)∧bS prog 72=some ⟨1,false,8,[.nilFunc]⟩∧bS prog 73=some ⟨1,false,8,[.nilFunc]⟩∧bS prog 74=some ⟨1,false,8,[.nilFunc]⟩∧bS prog 75=some ⟨1,false,8,[.nilFunc]⟩∧bS prog 76=some ⟨2,true,16,[.int .i64 0,.int .i64 0]⟩∧aX prog 76 0=some 0∧aX prog 76 1=some 1∧bp prog 76=some [(0,1),(1,1)]∧bS prog 77=some ⟨2,true,16,[.int .i64 0,.int .i64 0]⟩∧aX prog 77 0=some 0∧aX prog 77 1=some 1∧bp prog 77=some [(0,1),(1,1)]∧bS prog 79=some ⟨1,false,8,[.nilFunc]⟩∧bS prog 80=some ⟨1,false,8,[.nilFunc]⟩∧bS prog 81=some ⟨1,false,8,[.nilFunc]⟩∧bS prog 82=some ⟨1,false,8,[.nilFunc]⟩∧bS prog 83=some ⟨1,false,8,[.nilFunc]⟩∧bS prog 84=some ⟨1,false,8,[.nilFunc]⟩∧bS prog 85=some ⟨1,false,24,[.slice none 0 0]⟩∧A5 prog 85=some 3∧iE prog 85=some (154,⟨3,true,40,[.int .i64 0,.slice none 0 0,.pointer none]⟩)∧prog.underlying 85=some (.slice 154)∧bS prog 86=some ⟨19,true,224,[.int .i64 0,.slice none 0 0,.slice none 0 0,.int .i64 0,.int .i64 0,.int .i64 0,.int .i64 0,.bool false,.int .i64 0,.bool false,.slice none 0 0,.slice none 0 0,.slice none 0 0,.int .i64 0,.int .i64 0,.int .i64 0,.int .i64 0,.bool false,.bool false]⟩∧aX prog 86 0=some 0∧aX prog 86 1=some 10∧aX prog 86 2=some 11∧aX prog 86 3=some 12∧aX prog 86 4=some 13∧aX prog 86 5=some 14∧aX prog 86 6=some 15∧aX prog 86 7=some 16∧aX prog 86 8=some 17∧aX prog 86 9=some 18∧bp prog 86=some [(0,10),(10,1),(11,1),(12,1),(13,1),(14,1),(15,1),(16,1),(17,1),(18,1)]∧bS prog 87=some ⟨19,true,224,[.int .i64 0,.slice none 0 0,.slice none 0 0,.int .i64 0,.int .i64 0,.int .i64 0,.int .i64 0,.bool false,.int .i64 0,.bool false,.slice none 0 0,.slice none 0 0,.slice none 0 0,.int .i64 0,.int .i64 0,.int .i64 0,.int .i64 0,.bool false,.bool false]⟩∧aX prog 87 0=some 0∧aX prog 87 1=some 10∧aX prog 87 2=some 11∧aX prog 87 3=some 12∧aX prog 87 4=some 13∧aX prog 87 5=some 14∧aX prog 87 6=some 15∧aX prog 87 7=some 16∧aX prog 87 8=some 17∧aX prog 87 9=some 18∧bp prog 87=some [(0,10),(10,1),(11,1),(12,1),(13,1),(14,1),(15,1),(16,1),(17,1),(18,1)]∧bS prog 88=some ⟨1,false,8,[.nilFunc]⟩∧bS prog 89=some ⟨2,true,16,[.int .i64 0,.int .i64 0]⟩∧A5 prog 89=none∧LM prog 89=some (2,1)∧bp prog 89=none∧KS prog 89=some (2,.i64)∧bS prog 90=some ⟨6,true,64,[.int .i64 0,.int .i64 0,.slice none 0 0,.bool false,.int .i64 0,.int .i64 0]⟩∧aX prog 90 0=some 0∧aX prog 90 1=some 3∧aX prog 90 2=some 4∧aX prog 90 3=some 5:=by and_intros <;> kernel_rfl
theorem Qc:bp prog 90=some [(0,3),(3,1),(4,1),(5,1)]∧bS prog 91=some ⟨6,true,64,[.int .i64 0,.int .i64 0,.slice none 0 0,.bool false,.int .i64 0,.int .i64 0]⟩∧aX prog 91 0=some 0∧aX prog 91 1=some 3∧aX prog 91 2=some 4∧aX prog 91 3=some 5∧bp prog 91=some [(0,3),(3,1),(4,1),(5,1)]∧bS prog 92=some ⟨1,false,8,[.nilFunc]⟩∧bS prog 93=some ⟨1,false,8,[.pointer none]⟩∧prog.underlying 93=some (.pointer 156)∧bS prog 94=some ⟨3,true,40,[.int .i64 0,.slice none 0 0,.pointer none]⟩∧aX prog 94 0=some 0∧aX prog 94 1=some 1∧aX prog 94 2=some 2∧bp prog 94=some [(0,1),(1,1),(2,1)]∧bS prog 95=some ⟨3,true,40,[.int .i64 0,.slice none 0 0,.pointer none]⟩∧aX prog 95 0=some 0∧aX prog 95 1=some 1∧aX prog 95 2=some 2∧bp prog 95=some [(0,1),(1,1),(2,1)]∧bS prog 97=some ⟨1,false,8,[.nilFunc]⟩∧bS prog 98=some ⟨1,false,8,[.nilFunc]⟩∧bS prog 99=some ⟨1,false,8,[.pointer none]⟩∧prog.underlying 99=some (.pointer 101)∧bS prog 100=some ⟨6,true,64,[.slice none 0 0,.int .i64 0,.int .i64 0,.int .i64 0,.int .i64 0,.bool false]⟩∧aX prog 100 0=some 0∧aX prog 100 1=some 1∧aX prog 100 2=some 2∧aX prog 100 3=some 3∧aX prog 100 4=some 4∧aX prog 100 5=some 5∧bp prog 100=some [(0,1),(1,1),(2,1),(3,1),(4,1),(5,1)]∧bS prog 101=some ⟨6,true,64,[.slice none 0 0,.int .i64 0,.int .i64 0,.int .i64 0,.int .i64 0,.bool false]⟩∧aX prog 101 0=some 0∧aX prog 101 1=some 1∧aX prog 101 2=some 2∧aX prog 101 3=some 3∧aX prog 101 4=some 4∧aX prog 101 5=some 5∧bp prog 101=some [(0,1),(1,1),(2,1),(3,1),(4,1),(5,1)]∧bS prog 102=some ⟨2,true,32,[.int .i64 0,.slice none 0 0]⟩∧aX prog 102 0=some 0∧aX prog 102 1=some 1∧bp prog 102=some [(0,1),(1,1)]∧bS prog 103=some ⟨2,true,32,[.int .i64 0,.slice none 0 0]⟩∧aX prog 103 0=some 0∧aX prog 103 1=some 1∧bp prog 103=some [(0,1),(1,1)]∧bS prog 105=some ⟨1,false,8,[.nilFunc]⟩∧bS prog 106=some ⟨1,false,8,[.pointer none]⟩∧prog.underlying 106=some (.pointer 108)∧bS prog 107=some ⟨12,true,128,[.int .i64 0,.int .i64 0,.slice none 0 0,.slice none 0 0,.int .i64 0,.int .i64 0,.int .i64 0,.int .i64 0,.bool false,.int .i64 0,.int .i64 0,.pointer none]⟩∧aX prog 107 0=some 0∧aX prog 107 1=some 1∧aX prog 107 2=some 9∧aX prog 107 3=some 10∧aX prog 107 4=some 11∧bp prog 107=some [(0,1),(1,8),(9,1),(10,1),(11,1)]∧bS prog 108=some ⟨12,true,128,[.int .i64 0,.int .i64 0,.slice none 0 0,.slice none 0 0,.int .i64 0,.int .i64 0,.int .i64 0,.int .i64 0,.bool false,.int .i64 0,.int .i64 0,.pointer none]⟩∧aX prog 108 0=some 0∧aX prog 108 1=some 1∧aX prog 108 2=some 9∧aX prog 108 3=some 10∧aX prog 108 4=some 11∧bp prog 108=some [(0,1),(1,8),(9,1),(10,1),(11,1)]∧bS prog 109=some ⟨1,false,8,[.nilFunc]⟩∧bS prog 110=some ⟨1,false,8,[.pointer none]⟩∧prog.underlying 110=some (.pointer 119)∧bS prog 111=some ⟨1,false,8,[.nilFunc]⟩∧bS prog 112=some ⟨1,false,8,[.pointer none]⟩:=by and_intros <;> kernel_rfl
theorem P8:prog.underlying 112=some (.pointer 28)∧bS prog 113=some ⟨1,false,8,[.nilFunc]⟩∧bS prog 115=some ⟨1,false,8,[.nilFunc]⟩∧bS prog 116=some ⟨1,false,8,[.map none]⟩∧bS prog 117=some ⟨1,false,24,[.slice none 0 0]⟩∧A5 prog 117=some 3∧iE prog 117=some (167,⟨3,true,24,[.int .i64 0,.pointer none,.pointer none]⟩)∧prog.underlying 117=some (.slice 167)∧bS prog 118=some ⟨8,true,96,[.pointer none,.slice none 0 0,.map none,.slice none 0 0,.int .i64 0,.int .i64 0,.int .i64 0,.bool false]⟩∧aX prog 118 0=some 0∧aX prog 118 1=some 1∧aX prog 118 2=some 2∧aX prog 118 3=some 3∧aX prog 118 4=some 4∧aX prog 118 5=some 5∧aX prog 118 6=some 6∧aX prog 118 7=some 7∧bp prog 118=some [(0,1),(1,1),(2,1),(3,1),(4,1),(5,1),(6,1),(7,1)]∧bS prog 119=some ⟨8,true,96,[.pointer none,.slice none 0 0,.map none,.slice none 0 0,.int .i64 0,.int .i64 0,.int .i64 0,.bool false]⟩∧aX prog 119 0=some 0∧aX prog 119 1=some 1∧aX prog 119 2=some 2∧aX prog 119 3=some 3∧aX prog 119 4=some 4∧aX prog 119 5=some 5∧aX prog 119 6=some 6∧aX prog 119 7=some 7∧bp prog 119=some [(0,1),(1,1),(2,1),(3,1),(4,1),(5,1),(6,1),(7,1)]∧bS prog 120=some ⟨1,false,8,[.nilFunc]⟩∧bS prog 121=some ⟨1,false,8,[.nilFunc]⟩∧bS prog 122=some ⟨1,false,8,[.nilFunc]⟩∧bS prog 123=some ⟨1,false,8,[.nilFunc]⟩∧bS prog 124=some ⟨1,false,8,[.nilFunc]⟩∧bS prog 126=some ⟨1,false,8,[.nilFunc]⟩∧bS prog 127=some ⟨1,false,8,[.nilFunc]⟩∧bS prog 128=some ⟨1,false,8,[.nilFunc]⟩∧bS prog 129=some ⟨1,false,8,[.nilFunc]⟩∧bS prog 130=some ⟨1,false,8,[.nilFunc]⟩∧bS prog 131=some ⟨1,false,8,[.nilFunc]⟩∧bS prog 132=some ⟨1,false,8,[.nilFunc]⟩∧bS prog 133=some ⟨1,false,8,[.nilFunc]⟩∧bS prog 134=some ⟨1,false,8,[.nilFunc]⟩∧bS prog 135=some ⟨1,false,8,[.nilFunc]⟩∧bS prog 136=some ⟨1,false,8,[.nilFunc]⟩∧bS prog 137=some ⟨1,false,8,[.nilFunc]⟩∧bS prog 138=some ⟨1,false,8,[.nilFunc]⟩∧bS prog 139=some ⟨1,false,8,[.pointer none]⟩∧prog.underlying 139=some (.pointer 142)∧bS prog 140=some ⟨1,false,24,[.slice none 0 0]⟩∧A5 prog 140=some 1∧iE prog 140=some (49,⟨1,false,24,[.slice none 0 0]⟩)∧prog.underlying 140=some (.slice 49)∧bS prog 141=some ⟨7,true,104,[.slice none 0 0,.int .i64 0,.int .i64 0,.int .i64 0,.bool false,.slice none 0 0,.slice none 0 0]⟩∧aX prog 141 0=some 0∧aX prog 141 1=some 1∧aX prog 141 2=some 2∧aX prog 141 3=some 3∧aX prog 141 4=some 4∧aX prog 141 5=some 5∧aX prog 141 6=some 6∧bp prog 141=some [(0,1),(1,1),(2,1),(3,1),(4,1),(5,1),(6,1)]∧bS prog 142=some ⟨7,true,104,[.slice none 0 0,.int .i64 0,.int .i64 0,.int .i64 0,.bool false,.slice none 0 0,.slice none 0 0]⟩∧aX prog 142 0=some 0∧aX prog 142 1=some 1∧aX prog 142 2=some 2∧aX prog 142 3=some 3∧aX prog 142 4=some 4∧aX prog 142 5=some 5∧aX prog 142 6=some 6∧bp prog 142=some [(0,1),(1,1),(2,1),(3,1),(4,1),(5,1),(6,1)]:=by and_intros <;> kernel_rfl
theorem QJ:bS prog 143=some ⟨1,false,8,[.nilFunc]⟩∧bS prog 144=some ⟨1,false,8,[.pointer none]⟩∧prog.underlying 144=some (.pointer 146)∧bS prog 145=some ⟨12,true,128,[.int .i64 0,.int .i64 0,.slice none 0 0,.slice none 0 0,.int .i64 0,.int .i64 0,.int .i64 0,.int .i64 0,.bool false,.int .i64 0,.int .i64 0,.pointer none]⟩∧aX prog 145 0=some 0∧aX prog 145 1=some 1∧aX prog 145 2=some 9∧aX prog 145 3=some 10∧aX prog 145 4=some 11∧bp prog 145=some [(0,1),(1,8),(9,1),(10,1),(11,1)]∧bS prog 146=some ⟨12,true,128,[.int .i64 0,.int .i64 0,.slice none 0 0,.slice none 0 0,.int .i64 0,.int .i64 0,.int .i64 0,.int .i64 0,.bool false,.int .i64 0,.int .i64 0,.pointer none]⟩∧aX prog 146 0=some 0∧aX prog 146 1=some 1∧aX prog 146 2=some 9∧aX prog 146 3=some 10∧aX prog 146 4=some 11∧bp prog 146=some [(0,1),(1,8),(9,1),(10,1),(11,1)]∧bS prog 147=some ⟨1,false,8,[.nilFunc]⟩∧bS prog 148=some ⟨1,false,8,[.nilFunc]⟩∧bS prog 149=some ⟨1,false,8,[.nilFunc]⟩∧bS prog 150=some ⟨1,false,8,[.int .u64 0]⟩∧prog.underlying 150=some (.int .u64)∧bS prog 151=some ⟨1,false,8,[.nilFunc]⟩∧bS prog 152=some ⟨1,false,8,[.nilFunc]⟩∧bS prog 153=some ⟨3,true,40,[.int .i64 0,.slice none 0 0,.pointer none]⟩∧aX prog 153 0=some 0∧bp prog 153=some [(0,3)]∧bS prog 154=some ⟨3,true,40,[.int .i64 0,.slice none 0 0,.pointer none]⟩∧aX prog 154 0=some 0∧bp prog 154=some [(0,3)]∧bS prog 155=some ⟨5,true,40,[.int .i64 0,.pointer none,.int .i64 0,.int .i64 0,.pointer none]⟩∧aX prog 155 0=some 0∧aX prog 155 1=some 1∧aX prog 155 2=some 2∧aX prog 155 3=some 3∧aX prog 155 4=some 4∧bp prog 155=some [(0,1),(1,1),(2,1),(3,1),(4,1)]∧bS prog 156=some ⟨5,true,40,[.int .i64 0,.pointer none,.int .i64 0,.int .i64 0,.pointer none]⟩∧aX prog 156 0=some 0∧aX prog 156 1=some 1∧aX prog 156 2=some 2∧aX prog 156 3=some 3∧aX prog 156 4=some 4∧bp prog 156=some [(0,1),(1,1),(2,1),(3,1),(4,1)]∧bS prog 157=some ⟨1,false,8,[.nilFunc]⟩∧bS prog 158=some ⟨1,false,24,[.slice none 0 0]⟩∧A5 prog 158=some 10∧iE prog 158=some (28,⟨10,true,112,[.int .i64 0,.slice none 0 0,.slice none 0 0,.int .i64 0,.int .i64 0,.int .i64 0,.int .i64 0,.bool false,.int .i64 0,.bool false]⟩)∧prog.underlying 158=some (.slice 28)∧bS prog 159=some ⟨1,false,8,[.nilFunc]⟩∧bS prog 160=some ⟨1,false,8,[.nilFunc]⟩∧bS prog 161=some ⟨1,false,8,[.pointer none]⟩∧prog.underlying 161=some (.pointer 163)∧bS prog 162=some ⟨18,true,144,[.int .i64 0,.int .i64 0,.int .i64 0,.int .i64 0,.int .i64 0,.int .i64 0,.int .i64 0,.int .i64 0,.int .i64 0,.int .i64 0,.int .i64 0,.int .i64 0,.int .i64 0,.int .i64 0,.int .i64 0,.int .i64 0,.int .i64 0,.int .i64 0]⟩∧A5 prog 162=none∧LM prog 162=some (9,2)∧bp prog 162=none∧bS prog 163=some ⟨18,true,144,[.int .i64 0,.int .i64 0,.int .i64 0,.int .i64 0,.int .i64 0,.int .i64 0,.int .i64 0,.int .i64 0,.int .i64 0,.int .i64 0,.int .i64 0,.int .i64 0,.int .i64 0,.int .i64 0,.int .i64 0,.int .i64 0,.int .i64 0,.int .i64 0]⟩∧A5 prog 163=none∧LM prog 163=some (9,2)∧bp prog 163=none∧bS prog 164=some ⟨1,false,8,[.pointer none]⟩∧prog.underlying 164=some (.pointer 192)∧bS prog 165=some ⟨1,false,8,[.nilFunc]⟩∧bS prog 166=some ⟨3,true,24,[.int .i64 0,.pointer none,.pointer none]⟩∧aX prog 166 0=some 0∧aX prog 166 1=some 1∧aX prog 166 2=some 2∧bp prog 166=some [(0,1),(1,1),(2,1)]∧bS prog 167=some ⟨3,true,24,[.int .i64 0,.pointer none,.pointer none]⟩:=by and_intros <;> kernel_rfl
theorem Pr:aX prog 167 0=some 0∧aX prog 167 1=some 1∧aX prog 167 2=some 2∧bp prog 167=some [(0,1),(1,1),(2,1)]∧bS prog 169=some ⟨1,false,8,[.nilFunc]⟩∧bS prog 170=some ⟨1,false,8,[.nilFunc]⟩∧bS prog 171=some ⟨1,false,8,[.nilFunc]⟩∧bS prog 172=some ⟨1,false,24,[.slice none 0 0]⟩∧A5 prog 172=some 1∧iE prog 172=some (23,⟨1,false,24,[.slice none 0 0]⟩)∧prog.underlying 172=some (.slice 23)∧bS prog 173=some ⟨1,false,8,[.nilFunc]⟩∧bS prog 174=some ⟨1,false,8,[.nilFunc]⟩∧bS prog 175=some ⟨1,false,8,[.nilFunc]⟩∧bS prog 176=some ⟨1,false,8,[.nilFunc]⟩∧bS prog 177=some ⟨1,false,8,[.nilFunc]⟩∧bS prog 178=some ⟨1,false,8,[.nilFunc]⟩∧bS prog 179=some ⟨1,false,8,[.nilFunc]⟩∧bS prog 180=some ⟨1,false,8,[.nilFunc]⟩∧bS prog 181=some ⟨1,false,8,[.nilFunc]⟩∧bS prog 182=some ⟨1,false,8,[.nilFunc]⟩∧bS prog 183=some ⟨1,false,8,[.nilFunc]⟩∧bS prog 184=some ⟨1,false,8,[.nilFunc]⟩∧bS prog 185=some ⟨1,false,8,[.nilFunc]⟩∧bS prog 186=some ⟨1,false,8,[.nilFunc]⟩∧bS prog 187=some ⟨1,false,8,[.nilFunc]⟩∧bS prog 188=some ⟨1,false,8,[.nilFunc]⟩∧bS prog 189=some ⟨1,false,8,[.nilFunc]⟩∧bS prog 190=some ⟨1,false,8,[.nilFunc]⟩∧bS prog 191=some ⟨2,true,16,[.nilFunc,.pointer none]⟩∧aX prog 191 0=some 0∧aX prog 191 1=some 1∧bp prog 191=some [(0,1),(1,1)]∧bS prog 192=some ⟨2,true,16,[.nilFunc,.pointer none]⟩∧aX prog 192 0=some 0∧aX prog 192 1=some 1∧bp prog 192=some [(0,1),(1,1)]∧bS prog 193=some ⟨1,false,8,[.nilFunc]⟩∧bS prog 195=some ⟨1,false,8,[.nilFunc]⟩∧bS prog 196=some ⟨1,false,8,[.nilFunc]⟩∧bS prog 198=some ⟨1,false,8,[.nilFunc]⟩∧bS prog 199=some ⟨1,false,8,[.nilFunc]⟩∧bS prog 200=some ⟨1,false,8,[.nilFunc]⟩∧bS prog 201=some ⟨1,false,8,[.nilFunc]⟩∧bS prog 202=some ⟨1,false,8,[.nilFunc]⟩∧bS prog 203=some ⟨1,false,8,[.nilFunc]⟩∧bS prog 204=some ⟨1,false,8,[.nilFunc]⟩∧bS prog 205=some ⟨1,false,8,[.nilFunc]⟩∧bS prog 206=some ⟨4,true,40,[.pointer none,.pointer none,.pointer none,.string ⟨#[]⟩]⟩∧aX prog 206 0=some 0∧aX prog 206 1=some 1∧aX prog 206 2=some 2∧aX prog 206 3=some 3∧bp prog 206=some [(0,1),(1,1),(2,1),(3,1)]∧bS prog 208=some ⟨0,true,0,[]⟩∧A5 prog 208=none∧LM prog 208=some (0,1)∧bp prog 208=none∧bS prog 209=some ⟨0,true,0,[]⟩∧bp prog 209=some [(0,0)]∧bS prog 211=some ⟨1,false,4,[.int .u32 0]⟩∧prog.underlying 211=some (.int .u32)∧bS prog 214=some ⟨1,false,8,[.nilFunc]⟩∧bS prog 215=some ⟨1,false,8,[.pointer none]⟩∧prog.underlying 215=some (.pointer 5)∧bS prog 218=some ⟨11,true,48,[.int .u64 0,.int .u64 0,.int .u32 0,.int .u8 0,.int .u8 0,.int .u8 0,.int .u8 0,.nilFunc,.pointer none,.int .i32 0,.int .i32 0]⟩∧aX prog 218 0=some 0∧aX prog 218 1=some 1∧aX prog 218 2=some 2∧aX prog 218 3=some 3:=by and_intros <;> kernel_rfl
theorem Qb:aX prog 218 4=some 4∧aX prog 218 5=some 5∧aX prog 218 6=some 6∧aX prog 218 7=some 7∧aX prog 218 8=some 8∧aX prog 218 9=some 9∧aX prog 218 10=some 10∧bp prog 218=some [(0,1),(1,1),(2,1),(3,1),(4,1),(5,1),(6,1),(7,1),(8,1),(9,1),(10,1)]:=by and_intros <;> kernel_rfl
theorem np:type_of% (And.intro @Pe<|And.intro @Qa<|And.intro @Qi<|And.intro @Qc<|And.intro @P8<|And.intro @QJ<|And.intro @Pr @Qb):=And.intro @Pe<|And.intro @Qa<|And.intro @Qi<|And.intro @Qc<|And.intro @P8<|And.intro @QJ<|And.intro @Pr @Qb
def iD (n:Int):D:=.sc (.int .i64 n)
def bD (b:Bool):D:=.sc (.bool b)
def i64 (n:Int):V:=.d (.sc (.int .i64 n))
def bV (b:Bool):V:=.d (.sc (.bool b))
abbrev ay (l:List Int):D:=.sl (l.map fun x=>[iD x])
theorem bR (n:Int) (h:-9223372036854775808≤n∧n≤9223372036854775807):IntKind.i64.wrap n=n:=IntWalk.i64_in n h
def aM (s:Int×Int):List D:=[iD s.1,iD s.2]
inductive Re where
 |mk (op:Int) (set:List (Int×Int)) (kids:List Re) (mn mx mode n:Int) (neg:Bool)
def Re.op:Re→Int|.mk x _ _ _ _ _ _ _=>x
def Re.set:Re→List (Int×Int)|.mk _ x _ _ _ _ _ _=>x
def Re.kids:Re→List Re|.mk _ _ x _ _ _ _ _=>x
def Re.mn:Re→Int|.mk _ _ _ x _ _ _ _=>x
def Re.mx:Re→Int|.mk _ _ _ _ x _ _ _=>x
def Re.mode:Re→Int|.mk _ _ _ _ _ x _ _=>x
def Re.n:Re→Int|.mk _ _ _ _ _ _ x _=>x
def Re.neg:Re→Bool|.mk _ _ _ _ _ _ _ x=>x
mutual
def Re.cells:Re→List D
 |.mk op set kids mn mx mode n neg=>[iD op,.sl (set.map aM),.sl (Re.xh kids),iD mn,iD mx,iD mode,iD n,bD neg]
def Re.xh:List Re→List (List D)
 |[]=>[]
 |k::l=>k.cells::Re.xh l
end
theorem Re.zI:∀l:List Re,Re.xh l=l.map Re.cells
 |[]=>by simp [Re.xh]
 |k::l=>by simp [Re.xh,Re.zI l]
theorem Re.ae (re:Re):re.cells=[iD re.op,.sl (re.set.map aM),.sl (re.kids.map Re.cells),iD re.mn,iD re.mx,iD re.mode,iD re.n,bD re.neg]:=by
 cases re;simp [Re.cells,Re.zI,Re.op,Re.set,Re.kids,Re.mn,Re.mx,Re.mode,Re.n,Re.neg]
theorem Re.gF (re:Re):re.cells.length=8:=by rw[Re.ae];rfl
def lq (re:Re):V:=.ag (re.cells.map .d)
theorem xa (re:Re):(re.cells.map V.d).take 8=re.cells.map V.d:=VZ (by simp [Re.gF])
theorem xq (re:Re):(re.cells.map V.d).drop 8=[]:=List.drop_of_length_le (by simp [Re.gF])
theorem Bv (re:Re):V.ag (re.cells.map V.d)=lq re:=rfl
theorem aw (re:Re):lq re=.ag [.d (iD re.op),.d (.sl (re.set.map aM)),.d (.sl (re.kids.map Re.cells)),.d (iD re.mn),.d (iD re.mx),.d (iD re.mode),.d (iD re.n),.d (bD re.neg)]:=by
 rw[lq,Re.ae];rfl
theorem bE (ρ:List Nat) (re:Re):bu ρ (lq re)=lq re:=by rw[aw];rfl
def ck (re:Re):V:=.d (.el re.cells)
mutual
def Re.size:Re→Nat
 |.mk _ _ kids _ _ _ _ _=>1+Re.dQ kids
def Re.dQ:List Re→Nat
 |[]=>0
 |k::l=>k.size+Re.dQ l
end
theorem Re.size_eq (re:Re):re.size=1+Re.dQ re.kids:=by cases re;simp [Re.size,Re.kids]
theorem Re.size_pos (re:Re):0<re.size:=by rw[Re.size_eq];omega
theorem Re.tM:∀{l:List Re}{k:Re},k∈l→k.size≤Re.dQ l
 |k'::l,k,h=>by
  simp only[Re.dQ]
  rcases List.mem_cons.1 h with rfl|h
  ·omega
  ·have:=Re.tM h;omega
theorem Re.iC {re k:Re} (h:k∈re.kids):k.size<re.size:=by
 have:=Re.tM h
 rw[Re.size_eq re];omega
theorem Re.rE:∀l:List Re,l.length≤Re.dQ l
 |[]=>by simp
 |k::l=>by simp only[VC,Re.dQ];have:=Re.rE l;have:=k.size_pos;omega
theorem fg {α:Type}{l:List α}{i:Nat}{x:α} (h:l[i]?=some x):l.take (i+1)=l.take i++[x]:=by
 rw[List.take_add_one,h];rfl
theorem Re.kY:∀a b:List Re,Re.dQ (a++b)=Re.dQ a+Re.dQ b
 |[],b=>by simp [Re.dQ]
 |k::l,b=>by simp only[Vz,Re.dQ,Re.kY l b];omega
theorem Re.EG (l:List Re) (i:Nat):Re.dQ (l.take i)≤Re.dQ l:=by
 conv=>rhs;rw[← List.take_append_drop i l]
 rw[Re.kY];omega
theorem wO (re:Re):eA (lq re)=some (re.cells.map V.d):=rfl
theorem mapM_some {α β:Type} (f:α→Option β) (g:β→α) (h:∀x,f (g x)=some x):∀l:List β,(l.map g).mapM f=some l
 |[]=>rfl
 |x::l=>by rw[VP,Wz,h,mapM_some f g h l];rfl
theorem D1 (cs:List D):(cs.map V.d).mapM GG=some cs:=mapM_some GG V.d (fun _=>rfl) cs
theorem FF (n cL:Nat) (s:List VL.Obj) (x:D):bQ n cL s (.d x)=some x:=by cases n <;> rfl
theorem uQ (n cL:Nat) (s:List VL.Obj) (cs:List D):(cs.map V.d).mapM (bQ n cL s)=some cs:=mapM_some (bQ n cL s) V.d (FF n cL s) cs
theorem pV (n cL:Nat) (s:List VL.Obj) (l:List (List D)):(l.map fun c=>c.map V.d).mapM (fun (e:List V)=>e.mapM (bQ n cL s))=some l:=mapM_some (fun (e:List V)=>e.mapM (bQ n cL s)) (fun c=>c.map V.d) (uQ n cL s) l
theorem Re.ind {Q:Re→Prop} (h:∀re,(∀k∈re.kids,Q k)→Q re) (re:Re):Q re:=by
 induction hn:re.size using Nat.strongRecOn generalizing re with
 |_ n ih=>exact h re fun k hk=>ih k.size (by have:=Re.iC hk;omega) k rfl
theorem yu:type_of% (
 And.intro @wO <|
 And.intro @D1 <|
 And.intro @uQ <|
 And.intro @pV <|
 And.intro @FF <|
 And.intro @Re.gF <|
 And.intro @xa <|
 And.intro @xq <|
 @Bv) :=
 And.intro @wO <|
 And.intro @D1 <|
 And.intro @uQ <|
 And.intro @pV <|
 And.intro @FF <|
 And.intro @Re.gF <|
 And.intro @xa <|
 And.intro @xq <|
 @Bv
theorem zX:type_of% (And.intro Bo<|And.intro yu<|And.intro yx<|And.intro np @dD.eq_1):=(And.intro Bo<|And.intro yu<|And.intro yx<|And.intro np @dD.eq_1)
theorem zW:type_of% (And.intro Rg<|And.intro yu<|And.intro yx<|And.intro np @dD.eq_1):=(And.intro Rg<|And.intro yu<|And.intro yx<|And.intro np @dD.eq_1)
theorem zU:type_of% (And.intro @fP<|And.intro @List.contains_cons.{0}<|And.intro @List.contains_nil.{0}<|And.intro WB<|And.intro VM<|And.intro Bool.or_true<|And.intro VV<|And.intro @cu.eq_1<|And.intro @lC<|And.intro @jR<|And.intro @bg<|And.intro @if_true.{1} @if_false.{1}):=(And.intro @fP<|And.intro @List.contains_cons.{0}<|And.intro @List.contains_nil.{0}<|And.intro WB<|And.intro VM<|And.intro Bool.or_true<|And.intro VV<|And.intro @cu.eq_1<|And.intro @lC<|And.intro @jR<|And.intro @bg<|And.intro @if_true.{1} @if_false.{1})
theorem GI (cL:Nat) (re:Re):ar cL (lq re)=true:=by
 unfold lq;rw[ar,Fu]
theorem Fl (re:Re):re.size≤1000000000→bI prog 95 [lq re] (i64 re.size):=by
 induction re using Re.ind with
 |h re ih =>
 intro hs
 have hlen:=Re.rE re.kids
 have gH:=Re.size_eq re
 refine av func95 rfl ntmps95 results95 rfl 0 31 (by simp) (by simp) ?_
 simp only[zW,simprocAttr,aw re,iD,bD]
 refine aY (fun n e s=>∃i:Nat,n=re.kids.length-i∧i≤re.kids.length∧e 1=.rf 0 0 0 0∧e 3=i64 (1+Re.dQ (re.kids.take i):Nat)∧e 4=i64 i∧s=[⟨0,true,8,[re.cells.map .d]⟩]) ⟨_,_,_,dt.refl,0,rfl,by simp,rfl,rfl,rfl,by simp [Re.ae re,iD,bD]⟩ ?_
 rintro n e s ⟨i,rfl,hi,h1,h3,h4,rfl⟩
 rcases VX i re.kids.length with aT|iR
 ·obtain⟨k,hk⟩:∃k,re.kids[i]?=some k:=⟨_,Vu aT⟩
  have hm:=Vy hk
  have Mo:=Re.iC hm
  simp only[zW,simprocAttr,Re.ae re,iD,bD,h1,h3,h4,i64,aT,hk]
  refine aE (ih k hm (by omega)) (by simp [ar,ar.go,aw,i64,bV,ck]) (by simp [ar,ar.go,aw,i64,bV,ck]) ?_
  have h5:=Re.EG re.kids (i+1)
  rw[fg hk,Re.kY]at h5
  simp only[Re.dQ]at h5
  simp only[zW,simprocAttr,Re.ae re,iD,bD,h1,h3,h4,i64,aT,hk]
  refine⟨_,_,_,?_,dt.refl,i+1,rfl,aT,?_⟩
  ·omega
  simp only[cu,Nat.reduceEqDiff,if_true,if_false]
  refine⟨h1,?_,?_,by simp [Re.ae re,iD,bD]⟩
  ·rw[bR _ (by omega),fg hk,Re.kY];simp only[Re.dQ,i64];congr 3;omega
  ·rw[bR _ (by omega)];rfl
 ·have kT:i=re.kids.length:=by omega
  subst kT
  simp only[zW,simprocAttr,Re.ae re,iD,bD,h1,h3,h4,i64,Wj]
  simp [gH]
theorem mix:prog.follows .mixedOrders=true:=by rfl
def iV (n:Int):Prop:=-9223372036854775808≤n∧n≤9223372036854775807
def lQ (n ah:Int):Int:=if n<0 then (-(n+1)).tmod ah else n.tmod ah
theorem uC (n m:Int) (hm:1≤m) (hn:iV n):bI prog 12 [i64 n,i64 m] (i64 (lQ n m)):=by
 unfold iV at hn
 refine av func12 rfl ntmps12 results12 rfl 0 19 (by simp) (by simp) ?_
 simp only[Rg,yu,yx,dD,simprocAttr,i64]
 refine⟨fun h=>⟨by omega,?_⟩,fun h=>⟨by omega,?_⟩⟩
 ·rw[bR (n+1) (by omega),bR _ (by omega)]
  simp [lQ,h]
 ·simp [lQ,h]
def pick (l:List Int) (i:Int) (ah:Int):Int:=if i<0∨l.length≤i then 0 else lQ (l[i.toNat]?.getD 0) ah
theorem Ga (l:List Int) (hl:∀x∈l,iV x) (i m:Int) (hm:1≤m):bI prog 86 [.d (ay l),i64 i,i64 m] (i64 (pick l i m)):=by
 refine av func86 rfl ntmps86 results86 rfl 0 71 (by simp) (by simp) ?_
 by_cases h0:i<0
 ·simp only[zW,simprocAttr,i64,ay,iD,h0]
  simp [h0,pick]
 ·by_cases h1:(l.length:Int)≤i
  ·simp only[zW,simprocAttr,i64,ay,iD,h0,h1,ge_iff_le]
   simp [h0,pick];omega
  ·have aT:i.toNat<l.length:=by omega
   obtain⟨x,hx⟩:∃x,l[i.toNat]?=some x:=⟨_,Vu aT⟩
   simp only[zW,simprocAttr,i64,ay,iD,h0,h1,ge_iff_le,hx,show 0≤i by omega,show i<l.length by omega]
   refine aE (uC x m hm (hl x (Vy hx))) rfl rfl ?_
   simp only[zW,simprocAttr,i64]
   simp [h0,pick,hx];omega
structure Mk where
 l:List Int
 pos:Int
 cU:Int
 left:Int
 ai:Int
def bZ (m:Mk):VL.Obj:=⟨0,true,5,[[.d (ay m.l),i64 m.pos,i64 m.cU,i64 m.left,i64 m.ai]]⟩
def cy:V:=.rf 0 0 0 0
structure Mk.ok (m:Mk):Prop where
 l:∀x∈m.l,iV x
 pos:0≤m.pos∧m.pos≤1000000000
 left:-1000000000≤m.left∧m.left≤1000000000
 ai:0≤m.ai∧m.ai≤1000000000
def Mk.next (m:Mk) (n:Int):Int×Mk:=(pick m.l m.pos n,{ m with pos:=m.pos+1 })
theorem cb (m:Mk) (hl:∀x∈m.l,iV x) (hp:0≤m.pos∧m.pos≤1000000000) (n:Int) (hn:1≤n):az prog 68 [cy,i64 n] [bZ m] fun v s=>v=i64 (m.next n).1∧s=[bZ (m.next n).2]:=by
 have w1:IntKind.i64.wrap (m.pos+1)=m.pos+1:=bR _ (by omega)
 have w2:IntKind.i64.wrap (m.pos+1-1)=m.pos:=by rw[bR _ (by omega)];omega
 refine av func68 rfl ntmps68 results68 rfl 1 19 (by simp) (by simp) ?_
 simp only[zW,simprocAttr,i64,cy,bZ,w1,w2]
 refine an mix [] [] (by rfl) ?_
 simp only[zW,simprocAttr,i64,cy,bZ,w1,w2]
 refine cz (Ga m.l hl m.pos n hn) rfl rfl ?_
 simp only[zW,simprocAttr,i64,cy,bZ,w1,w2,Mk.next]
def nm:List (List (Int×Int)):=[[(97,97)],[(98,98)],[(97,98)],[(99,99)],[(97,99)],[(0,96),(98,255)],[(10,10),(97,97)],[]]
def Re.Ks (set:List (Int×Int)):Re:=.mk 1 set [] 0 0 0 0 false
def Mk.set (m:Mk):Re×Mk :=
 let (k,m1):=m.next 15
 (Re.Ks ((nm[(k / 2).toNat]?).getD []),m1)
theorem cK (l:List Int) (i m:Int) (hm:1≤m):0≤pick l i m∧pick l i m<m:=by
 unfold pick lQ
 split
 ·omega
 ·split
  ·rename_i h
   have h1:0≤-(l[i.toNat]?.getD 0+1):=by omega
   exact⟨Int.tmod_nonneg _ h1,Int.tmod_lt_of_pos _ (by omega)⟩
  ·rename_i h
   exact⟨Int.tmod_nonneg _ (by omega),Int.tmod_lt_of_pos _ (by omega)⟩
theorem iz (m:Mk) (hl:∀x∈m.l,iV x) (hp:0≤m.pos∧m.pos≤1000000000):az prog 69 [cy] [bZ m] fun v s=>v=lq m.set.1∧s=[bZ m.set.2]:=by
 have hk:=cK m.l m.pos 15 (by omega)
 have hd:(pick m.l m.pos 15).tdiv 2=pick m.l m.pos 15 / 2:=by rw[Int.tdiv_eq_ediv_of_nonneg hk.1]
 have w1:IntKind.i64.wrap (pick m.l m.pos 15 / 2)=pick m.l m.pos 15 / 2:=bR _ (by omega)
 refine av func69 rfl ntmps69 results69 rfl 1 13 (by simp) (by simp) ?_
 simp only[zW,simprocAttr,i64,cy]
 refine au (cb m hl hp 15 (by omega)) rfl rfl rfl rfl rfl rfl ?_
 have hc:pick m.l m.pos 15 / 2=0∨pick m.l m.pos 15 / 2=1∨pick m.l m.pos 15 / 2=2∨pick m.l m.pos 15 / 2=3∨pick m.l m.pos 15 / 2=4∨pick m.l m.pos 15 / 2=5∨pick m.l m.pos 15 / 2=6∨pick m.l m.pos 15 / 2=7:=by omega
 simp only[zW,simprocAttr,i64,cy,Mk.next,hd,w1]
 rcases hc with hc|hc|hc|hc|hc|hc|hc|hc <;> (simp only[zW,simprocAttr,hc,Mk.set,Mk.next,nm,Re.Ks,Int.toNat_zero,lq,Re.cells];first|exact⟨by omega,rfl,rfl⟩|exact⟨rfl,rfl⟩|rfl)
mutual
def Re.vf:Re→Bool
 |.mk op _ kids mn _ _ _ _=>if op=1 then false else if op=2 then Re.r8 kids else if op=3∨op=10 then Re.pn kids else if op=4 then decide (mn≤0)||Re.vC kids else if op=5∨op=9 then Re.vC kids else true
def Re.r8:List Re→Bool
 |[]=>true
 |k::l=>k.vf&&Re.r8 l
def Re.pn:List Re→Bool
 |[]=>false
 |k::l=>k.vf||Re.pn l
def Re.vC:List Re→Bool
 |[]=>false
 |k::_=>k.vf
end
theorem Re.rS (re:Re):re.vf=if re.op=1 then false else if re.op=2 then Re.r8 re.kids else if re.op=3∨re.op=10 then Re.pn re.kids else if re.op=4 then decide (re.mn≤0)||Re.vC re.kids else if re.op=5∨re.op=9 then Re.vC re.kids else true:=by
 cases re;simp only[Re.vf,Re.op,Re.kids,Re.mn];rfl
theorem Re.rQ:∀l:List Re,Re.r8 l=l.all Re.vf
 |[]=>rfl
 |k::l=>by simp [Re.r8,Re.rQ l]
theorem Re.rL:∀l:List Re,Re.pn l=l.any Re.vf
 |[]=>rfl
 |k::l=>by simp [Re.pn,Re.rL l]
theorem m5 {α:Type}{l:List α}{i:Nat}{k x:α} (h:l[i]?=some k) (hx:x∈l.take (i+1)):x∈l.take i∨x=k:=by
 rw[fg h]at hx
 simpa using hx
theorem lL (re:Re):re.size≤1000000000→bI prog 108 [lq re] (bV re.vf):=by
 induction re using Re.ind with
 |h re ih =>
 intro hs
 have hlen:=Re.rE re.kids
 have gH:=Re.size_eq re
 refine av func108 rfl ntmps108 results108 rfl 0 576460752336978015 (by simp) (by simp) ?_
 by_cases o1:re.op=1
 ·simp only[zW,simprocAttr,aw re,iD,bD,bV,o1,Re.rS re]
 by_cases o2:re.op=2
 ·simp only[zW,simprocAttr,aw re,iD,bD,bV,o2]
  refine aY (fun n e s=>∃i:Nat,n=re.kids.length-i∧i≤re.kids.length∧e 1=.rf 0 0 0 0∧e 3=i64 i∧(∀x∈re.kids.take i,x.vf=true)∧s=[⟨0,true,8,[re.cells.map .d]⟩]) ⟨_,_,_,dt.refl,0,rfl,by simp,rfl,rfl,by simp,by simp [Re.ae re,iD,bD,o2]⟩ ?_
  rintro n e s ⟨i,rfl,hi,h1,h3,hn,rfl⟩
  rcases VX i re.kids.length with aT|iR
  ·obtain⟨k,hk⟩:∃k,re.kids[i]?=some k:=⟨_,Vu aT⟩
   have hm:=Vy hk
   have Mo:=Re.iC hm
   simp only[zW,simprocAttr,Re.ae re,iD,bD,h1,h3,i64,aT,hk]
   refine aE (ih k hm (by omega)) (by simp [ar,ar.go,aw,i64,bV,ck]) (by simp [ar,ar.go,aw,i64,bV,ck]) ?_
   cases vo:k.vf with
   |false =>
    simp only[zW,simprocAttr,bV,vo]
    have:Re.r8 re.kids=false:=by rw[Re.rQ,List.all_eq_false];exact⟨k,hm,by simp [vo]⟩
    simp [Re.rS re,o2,this]
   |true =>
    simp only[zW,simprocAttr,bV,vo,h3,i64]
    refine⟨_,_,_,?_,dt.refl,i+1,rfl,aT,?_⟩
    ·omega
    simp only[cu,Nat.reduceEqDiff,if_true,if_false]
    refine⟨h1,?_,fun x hx=>?_,by simp [Re.ae re,iD,bD]⟩
    ·rw[bR _ (by omega)];rfl
    ·rcases m5 hk hx with h|rfl
     ·exact hn x h
     ·exact vo
  ·have kT:i=re.kids.length:=by omega
   subst kT
   simp only[zW,simprocAttr,Re.ae re,iD,bD,h1,h3,i64,Wj,bV]
   have:Re.r8 re.kids=true:=by rw[Re.rQ,VT];simpa using hn
   simp [Re.rS re,o2,this]
 by_cases o3:re.op=3∨re.op=10
 ·have hr:re.vf=Re.pn re.kids:=by simp [Re.rS re,o1,o2,o3]
  rcases o3 with o3|o3
  all_goals
   simp only[zW,simprocAttr,aw re,iD,bD,bV,o1,o2,o3]
   refine aY (fun n e s=>∃i:Nat,n=re.kids.length-i∧i≤re.kids.length∧e 1=.rf 0 0 0 0∧e 4=i64 i∧(∀x∈re.kids.take i,x.vf=false)∧s=[⟨0,true,8,[re.cells.map .d]⟩]) ⟨_,_,_,dt.refl,0,rfl,by simp,rfl,rfl,by simp,by simp [Re.ae re,iD,bD,o3]⟩ ?_
   rintro n e s ⟨i,rfl,hi,h1,h3,hn,rfl⟩
   rcases VX i re.kids.length with aT|iR
   ·obtain⟨k,hk⟩:∃k,re.kids[i]?=some k:=⟨_,Vu aT⟩
    have hm:=Vy hk
    have Mo:=Re.iC hm
    simp only[zW,simprocAttr,Re.ae re,iD,bD,h1,h3,i64,aT,hk]
    refine aE (ih k hm (by omega)) (by simp [ar,ar.go,aw,i64,bV,ck]) (by simp [ar,ar.go,aw,i64,bV,ck]) ?_
    cases vo:k.vf with
    |true =>
     simp only[zW,simprocAttr,bV,vo]
     have:Re.pn re.kids=true:=by rw[Re.rL,List.any_eq_true];exact⟨k,hm,by simp [vo]⟩
     simp [hr,this]
    |false =>
     simp only[zW,simprocAttr,bV,vo,h3,i64]
     refine⟨_,_,_,?_,dt.refl,i+1,rfl,aT,?_⟩
     ·omega
     simp only[cu,Nat.reduceEqDiff,if_true,if_false]
     refine⟨h1,?_,fun x hx=>?_,by simp [Re.ae re,iD,bD]⟩
     ·rw[bR _ (by omega)];rfl
     ·rcases m5 hk hx with h|rfl
      ·exact hn x h
      ·exact vo
   ·have kT:i=re.kids.length:=by omega
    subst kT
    simp only[zW,simprocAttr,Re.ae re,iD,bD,h1,h3,i64,Wj,bV]
    have:Re.pn re.kids=false:=by rw[Re.rL,List.any_eq_false];simpa using hn
    simp [hr,this]
 have OV:¬re.op=3:=fun h=>o3 (.inl h)
 have sg:¬re.op=10:=fun h=>o3 (.inr h)
 by_cases o4:re.op=4
 ·have hr:re.vf=(decide (re.mn≤0)||Re.vC re.kids):=by simp [Re.rS re,o4]
  by_cases hmn:re.mn≤0
  ·simp only[zW,simprocAttr,aw re,iD,bD,bV,o1,o2,OV,sg,o4,hmn]
   simp [hr,hmn]
  cases hk:re.kids with
  |nil =>
   simp only[zW,simprocAttr,aw re,iD,bD,bV,o1,o2,OV,sg,o4,hmn,hk,VO]
   simp [hr,hmn,hk,Re.vC]
  |cons k l =>
   have hm:k∈re.kids:=by simp [hk]
   have Mo:=Re.iC hm
   have dv:(0:Int)<((l.length+1:Nat):Int):=by omega
   simp only[zW,simprocAttr,aw re,iD,bD,bV,o1,o2,OV,sg,o4,hmn,hk,VP,dv]
   refine aE (ih k hm (by omega)) (by simp [ar,ar.go,aw,i64,bV,ck]) (by simp [ar,ar.go,aw,i64,bV,ck]) ?_
   cases vo:k.vf with
   |true =>
    simp only[zW,simprocAttr,bV,vo]
    simp [hr,hmn,hk,Re.vC,vo]
   |false =>
    simp only[zW,simprocAttr,bV,vo]
    simp [hr,hmn,hk,Re.vC,vo]
 by_cases o5:re.op=5∨re.op=9
 ·have hr:re.vf=Re.vC re.kids:=by simp [Re.rS re,o1,o2,o3,o4,o5]
  rcases o5 with o5|o5
  all_goals
   cases hk:re.kids with
   |nil =>
    simp only[zW,simprocAttr,aw re,iD,bD,bV,o1,o2,OV,sg,o4,o5,hk,VO]
    simp [hr,hk,Re.vC]
   |cons k l =>
    have hm:k∈re.kids:=by simp [hk]
    have Mo:=Re.iC hm
    have dv:(0:Int)<((l.length+1:Nat):Int):=by omega
    simp only[zW,simprocAttr,aw re,iD,bD,bV,o1,o2,OV,sg,o4,o5,hk,VP,dv]
    refine aE (ih k hm (by omega)) (by simp [ar,ar.go,aw,i64,bV,ck]) (by simp [ar,ar.go,aw,i64,bV,ck]) ?_
    cases vo:k.vf with
    |true =>
     simp only[zW,simprocAttr,bV,vo]
     simp [hr,hk,Re.vC,vo]
    |false =>
     simp only[zW,simprocAttr,bV,vo]
     simp [hr,hk,Re.vC,vo]
 have UN:¬re.op=5:=fun h=>o5 (.inl h)
 have o9:¬re.op=9:=fun h=>o5 (.inr h)
 simp only[zW,simprocAttr,aw re,iD,bD,bV,o1,o2,OV,sg,o4,UN,o9]
 simp [Re.rS re,o1,o2,o3,o4,o5]
def Mr (a b:Int):Int:=if a<0∨b<0 then -1 else min (IntKind.i64.wrap (a+b)) 1000000
def Jj (a b:Int):Int:=if a<0∨b<0 then -1 else max a b
def Kf (a b:Int):Int:=if a=0∨b=0 then 0 else if a<0∨b<0 then -1 else min (IntKind.i64.wrap (a*b)) 1000000
def SS (l:List (Int×Int)):Int×Int:=l.foldl (fun a k=>(Mr a.1 k.1,Mr a.2 k.2)) (0,0)
def AE (a k:Int×Int):Int×Int:=(min a.1 k.1,Jj a.2 k.2)
def Oj:List (Int×Int)→Int×Int
 |[]=>(0,0)
 |k::l=>l.foldl AE (AE k k)
def Nw (op mn mx:Int) (l:List (Int×Int)):Int×Int :=
 if op=1 then (1,1)
 else if op=6 then (0,-1)
 else if op=2 then SS l
 else if op=3∨op=10∨op=4∨op=5∨op=9 then
  (if op=4 then (Kf (Oj l).1 mn,Kf (Oj l).2 mx) else Oj l)
 else (0,0)
mutual
def Re.lens:Re→Int×Int
 |.mk op _ kids mn mx _ _ _=>Nw op mn mx (Re.DR kids)
def Re.DR:List Re→List (Int×Int)
 |[]=>[]
 |k::l=>k.lens::Re.DR l
end
theorem Re.K4:∀l:List Re,Re.DR l=l.map Re.lens
 |[]=>by simp [Re.DR]
 |k::l=>by simp [Re.DR,Re.K4 l]
mutual
def Re.gi:Re→Bool
 |.mk _ set kids _ _ _ _ _=>decide (set.length≤1000000000)&&(decide (kids.length≤1000000000)&&Re.F2 kids)
def Re.F2:List Re→Bool
 |[]=>true
 |k::l=>k.gi&&Re.F2 l
end
theorem Re.zT:∀l:List Re,Re.F2 l=l.all Re.gi
 |[]=>rfl
 |k::l=>by simp [Re.F2,Re.zT l]
theorem Re.BT (re:Re):re.gi=true ↔ re.set.length≤1000000000∧re.kids.length≤1000000000∧∀k∈re.kids,k.gi=true:=by
 cases re with
 |mk op set kids mn mx mode n neg=>simp only[Re.gi,VE,decide_eq_true_eq,Re.zT,VT,Re.set,Re.kids]
theorem Re.ie {re:Re} (h:re.gi=true):re.set.length≤1000000000∧re.kids.length≤1000000000∧∀k∈re.kids,k.gi=true:=(Re.BT re).1 h
end Go.Proofs.Ytllagoeijcjpiaa
namespace Go.Proofs.Ytllagoeijcjpiaa
open Go.VL Go.Proofs.Try
def Re.kept (re:Re):Bool:=decide (re.mn=0)&&(decide (re.mx=-1)||decide (re.mx=1))
theorem QU (re:Re):bI prog 81 [ck re] (bV re.kept):=by
 refine av func81 rfl ntmps81 results81 rfl 0 5 (by simp) (by simp) ?_
 by_cases h1:re.mn=0
 ·by_cases h2:re.mx=-1
  ·simp only[zW,simprocAttr,i64,ck,Re.ae re,iD,bD,h1,h2]
   simp [Re.kept,h1,h2,bV]
  ·by_cases h3:re.mx=1
   ·simp only[zW,simprocAttr,i64,ck,Re.ae re,iD,bD,h1,h2,h3]
    simp [Re.kept,h1,h3,bV]
   ·simp only[zW,simprocAttr,i64,ck,Re.ae re,iD,bD,h1,h2,h3]
    simp [Re.kept,h1,h2,h3,bV]
 ·simp only[zW,simprocAttr,i64,ck,Re.ae re,iD,bD,h1]
  simp [Re.kept,h1,bV]
theorem nz (n cL:Nat) (s:List VL.Obj) (ds:List (List D)) (k:Nat) (hk:ds.length≤k):((ds.map fun c=>c.map V.d).take k).mapM (fun (e:List V)=>e.mapM (bQ n cL s))=some ds:=by
 rw[VZ (by simpa using hk),pV]
theorem yT (l:List (Int×Int)) (hl:l.length≤1000000000):bI prog 73 [.d (.sl (l.map aM))] (.d (.sl (l.map aM))):=by
 refine av func73 rfl ntmps73 results73 rfl 0 5 (by simp) (by simp) ?_
 cases l with
 |nil =>
  simp only[zW,simprocAttr,]
  exact⟨⟨_,rfl⟩,by simp,by simp⟩
 |cons x l =>
  simp only[zW,simprocAttr,]
  have he:(List.map V.d (aM x)::List.map (fun x=>List.map V.d x) (List.map aM l))=((x::l).map aM).map (fun c=>c.map V.d):=rfl
  simp only[VC]at hl
  refine⟨⟨_,rfl⟩,?_,⟨by omega,by simp⟩,?_⟩
  ·rw[he];intro e hm
   obtain⟨c,hc,rfl⟩:=List.mem_map.1 hm
   obtain⟨y,_,rfl⟩:=List.mem_map.1 hc
   rfl
  ·rw[he,nz 7 0 _ _ (0+(l.length+1)) (by simp),if_pos (by omega)]
   rfl
end Go.Proofs.Ytllagoeijcjpiaa
namespace Go.Proofs.Ytllagoeijcjpiaa
open Go.VL Go.Proofs.Try
def lE (c:Int):VL.Obj:=⟨0,true,1,[[i64 c]]⟩
mutual
def Re.depth:Re→Int
 |.mk _ _ kids _ _ _ _ _=>Re.xJ kids 0+1
def Re.xJ:List Re→Int→Int
 |[],a=>a
 |k::l,a=>Re.xJ l (max a k.depth)
end
def sb (l:List Int):Int:=l.foldl max 0
theorem Re.zG:∀(l:List Re) (a:Int),Re.xJ l a=(l.map Re.depth).foldl max a
 |[],a=>by simp [Re.xJ]
 |k::l,a=>by simp [Re.xJ,Re.zG l]
theorem Re.pq (re:Re):re.depth=sb (re.kids.map Re.depth)+1:=by
 cases re;simp [Re.depth,Re.zG,Re.kids,sb]
theorem HC (l:List Int) (k:Int):sb (l++[k])=max (sb l) k:=by simp [sb,List.foldl_append]
theorem ln {b:Int}:∀(l:List Int) (a:Int),a≤b→(∀x∈l,x≤b)→l.foldl max a≤b
 |[],a,h,_=>h
 |x::l,a,h,hl=>ln l (max a x) (by have:=hl x (by simp);omega) (fun y hy=>hl y (by simp [hy]))
theorem lu:∀(l:List Int) (a:Int),a≤l.foldl max a
 |[],a=>Vr _
 |x::l,a=>Int.le_trans (by omega) (lu l (max a x))
theorem Re.BU (re:Re):0≤re.depth∧re.depth≤re.size:=by
 refine Re.ind (Q:=fun re=>0≤re.depth∧re.depth≤re.size) (fun re ih=>?_) re
 rw[Re.pq,Re.size_eq]
 have h1:=lu (re.kids.map Re.depth) 0
 have h2:sb (re.kids.map Re.depth)≤(Re.dQ re.kids:Nat):=ln _ _ (by omega) (fun x hx=>by
  obtain⟨k,hk,rfl⟩:=List.mem_map.1 hx
  have:=Re.tM hk
  have:=(ih k hk).2
  omega)
 unfold sb at *
 omega
theorem By (re:Re) (hs:re.size≤1000000000):bI prog 96 [lq re] (i64 re.depth):=by
 revert hs
 refine Re.ind (Q:=fun re=>re.size≤1000000000→bI prog 96 [lq re] (i64 re.depth)) (fun re ih hs=>?_) re
 have hlen:=Re.rE re.kids
 have gH:=Re.size_eq re
 have hd:=Re.BU re
 rw[Re.pq]at hd ⊢
 refine av func96 rfl ntmps96 results96 rfl 0 31 (by simp) (by simp) ?_
 simp only[zW,simprocAttr,i64,aw re,iD,bD]
 refine aY (fun n e s=>∃i:Nat,n=re.kids.length-i∧i≤re.kids.length∧e 1=.rf 0 0 0 0∧e 3=i64 (sb ((re.kids.take i).map Re.depth))∧e 4=i64 i∧s=[⟨0,true,8,[re.cells.map .d]⟩])
  ⟨_,_,_,dt.refl,0,rfl,by omega,rfl,rfl,rfl,by rw[Re.ae re];rfl⟩ ?_
 rintro n e s ⟨i,rfl,hi,h1,h3,h4,rfl⟩
 rcases VX i re.kids.length with aT|iR
 ·obtain⟨k,hk⟩:∃k,re.kids[i]?=some k:=⟨_,Vu aT⟩
  have hm:=Vy hk
  have Mo:=Re.iC hm
  simp only[zW,simprocAttr,i64,Re.ae re,iD,bD,h1,h3,h4,aT,hk]
  refine aE (ih k hm (by omega)) (by simp [ar,ar.go,aw,i64,bV,ck]) (by simp [ar,ar.go,aw,i64,bV,ck]) ?_
  simp only[zW,simprocAttr,i64,Re.ae re,iD,bD,h1,h3,h4]
  refine⟨re.kids.length-(i+1),_,_,by omega,dt.refl,i+1,rfl,aT,?_,?_,?_,rfl⟩ <;> (try simp only[zU,Nat.reduceBEq,Nat.reduceShiftRight,Nat.reduceMod,Nat.reduceEqDiff,reduceIte])
  ·exact h1
  ·rw[fg hk,WA,VP,VO,HC]
  ·rw[bR _ (by omega)];rfl
 ·have kT:i=re.kids.length:=by omega
  subst kT
  rw[We]at h3
  have w1:IntKind.i64.wrap (sb (re.kids.map Re.depth)+1)=sb (re.kids.map Re.depth)+1:=bR _ (by omega)
  simp only[zW,simprocAttr,i64,Re.ae re,iD,bD,h1,h3,h4,Wj,w1]
  all_goals first|exact⟨rfl,rfl⟩|exact⟨rfl,trivial⟩|rfl|trivial|(rw[aw];rfl)
theorem Dk {P:Program}{f:FuncId}{args:List V}{s:List VL.Obj}{K1 K:V→List VL.Obj→Prop} (h:az P f args s K1)
  (hw:∀v s1,K1 v s1→∀σ w u,Inv σ s1 w→aJ σ s1 w v u→∃σ2 s2 v2,bc σ s1 w σ2 s2 w∧Inv σ2 s2 w∧aJ σ2 s2 w v2 u∧K v2 s2):az P f args s K:=by
 refine⟨h.1,fun σ w vals hI hl hv=>(h.2 σ w vals hI hl hv).mono fun e w' ⟨u,v,σ',s',h1,h2,h3,h4,h5⟩=>?_⟩
 obtain⟨σ2,s2,v2,k1,k2,k3,k4⟩:=hw v s' h5 σ' w' u h3 h4
 exact⟨u,v2,σ2,s2,h1,h2.trans k1,k2,k3,k4⟩
theorem xc {σ:Gh}{s:List VL.Obj}{w:World} (hI:Inv σ s w) {o:VL.Obj}{pre post:List V} (k sz:Nat) (ho:s[k]?=some o) (kV:o.aL=[pre++.fu []::post]) (gH:pre.length+1+post.length=o.sz) :
  ∃σ',bc σ s w σ' (s.set k { o with aL:=[pre++.so s.length 0 0 0::post] }++[⟨0,true,sz,[]⟩]) w∧Inv σ' (s.set k { o with aL:=[pre++.so s.length 0 0 0::post] }++[⟨0,true,sz,[]⟩]) w:=by
 have hk:=(List.getElem?_eq_some_iff.1 ho).1
 have hp:=lR (p:=none) (o':=⟨0,true,sz,[]⟩) (w':=w) hI rfl rfl rfl (VA _) (fun _ _=>rfl) (fun _ _ h'=>by cases h') (fun _=>.inl (.inl ⟨rfl,rfl⟩))
 have Pz:(s++[(⟨0,true,sz,[]⟩:VL.Obj)])[k]?=some o:=by rw[VH hk];exact ho
 have hr:=EC hp.2 (els':=[pre++.so s.length 0 0 0::post]) Pz (by intro e he;rw[List.mem_singleton.1 he];simp;omega) (by rw[kV];rfl) (by
  intro es he
  rw[kV]at he
  have hm:(pre++.fu []::post)∈iP es:=by rw[← he];exact List.mem_singleton.2 rfl
  unfold iP at hm
  obtain⟨x,_,hx⟩:=List.mem_map.1 hm
  have hf:V.fu []∈[V.d (.sc x.key),V.d (.sc x.val)]:=by rw[hx];simp
  simp at hf) (fun i j x' hx=>by
  rw[kV]
  cases i with
  |succ i=>simp at hx
  |zero =>
   simp only[VQ,Wd]at hx ⊢
   by_cases hj:j=pre.length
   ·subst hj
    rw[VF (VA _),Wv]at hx ⊢
    simp only[VQ,Option.some.injEq]at hx ⊢
    subst hx
    refine⟨_,rfl,fun u hu=>?_⟩
    cases hu with|fu hx=>?_
    exact .so ⟨0,true,sz,[]⟩ (by simp) (VA _) rfl (fun _=>.inl ⟨b9 _ _ _,⟨_,rfl⟩,rfl,rfl⟩)
   ·refine⟨x',?_,fun u hu=>hu⟩
    rcases VX j pre.length with aT|iR
    ·rw[VH aT]at hx ⊢;exact hx
    ·rw[VF iR]at hx ⊢
     cases hm:j-pre.length with
     |zero=>omega
     |succ m=>rw[hm]at hx;simpa using hx)
 have cC:(s++[(⟨0,true,sz,[]⟩:VL.Obj)]).set k { o with aL:=[pre++.so s.length 0 0 0::post] }=s.set k { o with aL:=[pre++.so s.length 0 0 0::post] }++[⟨0,true,sz,[]⟩]:=by
  rw[List.set_append_left _ _ hk]
 rw[cC]at hr
 exact⟨_,hp.1.trans hr.1,hr.2⟩
theorem wX {cL id g lo n sz:Nat}{live:Bool}{s:List VL.Obj}{aL:List (List V)}{ds:List (List D)} (ho:s[id]?=some ⟨g,live,sz,aL⟩) (he:(aL.drop lo).take n=ds.map (fun c=>c.map V.d)) (hn:lo+n≤aL.length) (hl:cL≤id∨live=false) :
  aZ cL s (.so id g lo n)=some (.d (.sl ds)):=by
 simp only[aZ,bQ,ho,true_and]
 rw[if_pos ⟨hn,hl⟩,he,pV]
 rfl
theorem va {e:Env}{s:List VL.Obj} (t sz:Nat) (h:e t=.fu []):bL e s (cu e t (.so s.length 0 0 0)) (s++[⟨0,true,sz,[]⟩]):=by
 intro σ0 s0 w0 σ w N a hE hI hR
 have hp:=lR (p:=none) (o':=⟨0,true,sz,[]⟩) (w':=w) hI rfl rfl rfl (VA _) (fun _ _=>rfl) (fun _ _ h'=>by cases h') (fun _=>.inl (.inl ⟨rfl,rfl⟩))
 refine⟨_,hE.trans hp.1,hp.2,hR.1,hR.2.1,fun k=>?_⟩
 by_cases hk:k=t
 ·subst hk
  have hu:=(hR.2.2 k).bM hp.1
  rw[h]at hu
  rw[cu,if_pos rfl]
  generalize a.tmps.getD k undef=u at hu
  cases hu with|fu hx=>?_
  exact .so ⟨0,true,sz,[]⟩ (by simp) (VA _) rfl (fun _=>.inl ⟨b9 _ _ _,⟨_,rfl⟩,rfl,rfl⟩)
 ·rw[cu,if_neg hk]
  exact(hR.2.2 k).bM hp.1
end Go.Proofs.Ytllagoeijcjpiaa
