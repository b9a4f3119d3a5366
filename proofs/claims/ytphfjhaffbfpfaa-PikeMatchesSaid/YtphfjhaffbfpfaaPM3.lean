/- A part of the proof (Ty Da Db F2 F3 F4 F5 F13 F15 F16 F30 F22 F31 F72). -/
import Derived.Test.YtphfjhaffbfpfaaRows
import Derived.KernelRfl
import Derived.Test.YtphfjhaffbfpfaaPM1
import Derived.Test.YtphfjhaffbfpfaaPM2
set_option linter.all false
set_option maxRecDepth 100000
set_option maxHeartbeats 80000000
namespace Go.Proofs.Ytphfjhaffbfpfaa
open Go.VL Go.Proofs.Try
theorem SW:lS prog 22=some (3,⟨1,false,8,[.int .i64 0]⟩):=by kernel_rfl
theorem UQ:lS prog 40=some (69,⟨2,true,16,[.int .i64 0,.int .i64 0]⟩):=by kernel_rfl
theorem TG:lS prog 85=some (42,⟨3,true,40,[.int .i64 0,.int .i64 0,.slice none 0 0]⟩):=by kernel_rfl
theorem WC:cL prog 1=some ⟨1,false,8,[.nilFunc]⟩/\cL prog 2=some ⟨1,false,8,[.int .i64 0]⟩/\prog.underlying 2=some (.int .i64)/\cL prog 3=some ⟨1,false,8,[.int .i64 0]⟩/\prog.underlying 3=some (.int .i64)/\cL prog 4=some ⟨1,false,1,[.bool false]⟩/\prog.underlying 4=some .bool/\cL prog 5=some ⟨1,false,1,[.int .u8 0]⟩/\prog.underlying 5=some (.int .u8)/\cL prog 7=some ⟨4,true,24,[.int .i64 0,.int .i64 0,.bool false,.int .u8 0]⟩/\bc prog 7 0=some 0/\bc prog 7 1=some 1/\bc prog 7 2=some 2/\bc prog 7 3=some 3/\bz prog 7=some [(0,1),(1,1),(2,1),(3,1)]/\cL prog 9=some ⟨1,false,16,[.string ⟨#[]⟩]⟩/\cL prog 12=some ⟨1,false,8,[.int .u64 0]⟩/\prog.underlying 12=some (.int .u64)/\cL prog 13=some ⟨2,true,24,[.string ⟨#[]⟩,.int .u64 0]⟩/\bc prog 13 0=some 0/\bc prog 13 1=some 1/\bz prog 13=some [(0,1),(1,1)]/\cL prog 15=some ⟨1,false,8,[.pointer none]⟩/\prog.underlying 15=some (.pointer 162)/\cL prog 16=some ⟨1,false,8,[.pointer none]⟩/\prog.underlying 16=some (.pointer 165)/\cL prog 17=some ⟨1,false,8,[.pointer none]⟩/\prog.underlying 17=some (.pointer 175)/\cL prog 18=some ⟨1,true,8,[.pointer none]⟩/\bc prog 18 0=some 0/\bz prog 18=some [(0,1)]/\cL prog 21=some ⟨1,false,4,[.int .i32 0]⟩/\prog.underlying 21=some (.int .i32)/\cL prog 22=some ⟨1,false,24,[.slice none 0 0]⟩/\HQ prog 22=some 1/\lS prog 22=some (3,⟨1,false,8,[.int .i64 0]⟩)/\prog.underlying 22=some (.slice 3)/\cL prog 23=some ⟨1,false,24,[.slice none 0 0]⟩/\HQ prog 23=some 2/\lS prog 23=some (80,⟨2,true,16,[.int .i64 0,.int .i64 0]⟩)/\prog.underlying 23=some (.slice 80)/\cL prog 24=some ⟨1,false,24,[.slice none 0 0]⟩/\HQ prog 24=some 8/\lS prog 24=some (26,⟨8,true,96,[.int .i64 0,.slice none 0 0,.slice none 0 0,.int .i64 0,.int .i64 0,.int .i64 0,.int .i64 0,.bool false]⟩)/\prog.underlying 24=some (.slice 26)/\cL prog 25=some ⟨8,true,96,[.int .i64 0,.slice none 0 0,.slice none 0 0,.int .i64 0,.int .i64 0,.int .i64 0,.int .i64 0,.bool false]⟩/\bc prog 25 0=some 0/\bc prog 25 1=some 1/\bc prog 25 2=some 2/\bc prog 25 3=some 3/\bc prog 25 4=some 4/\bc prog 25 5=some 5/\bc prog 25 6=some 6/\bc prog 25 7=some 7/\bz prog 25=some [(0,1),(1,1),(2,1),(3,1),(4,1),(5,1),(6,1),(7,1)]/\cL prog 26=some ⟨8,true,96,[.int .i64 0,.slice none 0 0,.slice none 0 0,.int .i64 0,.int .i64 0,.int .i64 0,.int .i64 0,.bool false]⟩/\bc prog 26 0=some 0/\bc prog 26 1=some 1/\bc prog 26 2=some 2/\bc prog 26 3=some 3/\bc prog 26 4=some 4/\bc prog 26 5=some 5/\bc prog 26 6=some 6/\bc prog 26 7=some 7/\bz prog 26=some [(0,1),(1,1),(2,1),(3,1),(4,1),(5,1),(6,1),(7,1)]/\cL prog 27=some ⟨10,true,112,[.int .i64 0,.slice none 0 0,.slice none 0 0,.int .i64 0,.int .i64 0,.int .i64 0,.int .i64 0,.bool false,.int .i64 0,.bool false]⟩/\bc prog 27 0=some 0/\bc prog 27 1=some 8/\bc prog 27 2=some 9/\bz prog 27=some [(0,8),(8,1),(9,1)]:=by and_intros <;> kernel_rfl
theorem VY:cL prog 28=some ⟨10,true,112,[.int .i64 0,.slice none 0 0,.slice none 0 0,.int .i64 0,.int .i64 0,.int .i64 0,.int .i64 0,.bool false,.int .i64 0,.bool false]⟩/\bc prog 28 0=some 0/\bc prog 28 1=some 8/\bc prog 28 2=some 9/\bz prog 28=some [(0,8),(8,1),(9,1)]/\cL prog 30=some ⟨1,false,8,[.nilFunc]⟩/\cL prog 31=some ⟨1,false,24,[.slice none 0 0]⟩/\HQ prog 31=some 5/\lS prog 31=some (58,⟨5,true,56,[.int .i64 0,.int .i64 0,.int .i64 0,.int .i64 0,.slice none 0 0]⟩)/\prog.underlying 31=some (.slice 58)/\cL prog 32=some ⟨3,true,40,[.slice none 0 0,.int .i64 0,.bool false]⟩/\bc prog 32 0=some 0/\bc prog 32 1=some 1/\bc prog 32 2=some 2/\bz prog 32=some [(0,1),(1,1),(2,1)]/\cL prog 33=some ⟨3,true,40,[.slice none 0 0,.int .i64 0,.bool false]⟩/\bc prog 33 0=some 0/\bc prog 33 1=some 1/\bc prog 33 2=some 2/\bz prog 33=some [(0,1),(1,1),(2,1)]/\cL prog 34=some ⟨1,false,8,[.int .i64 0]⟩/\prog.underlying 34=some (.int .i64)/\cL prog 36=some ⟨1,false,8,[.nilFunc]⟩/\cL prog 37=some ⟨1,false,8,[.pointer none]⟩/\prog.underlying 37=some (.pointer 62)/\cL prog 39=some ⟨1,false,8,[.nilFunc]⟩/\cL prog 40=some ⟨1,false,24,[.slice none 0 0]⟩/\HQ prog 40=some 2/\lS prog 40=some (69,⟨2,true,16,[.int .i64 0,.int .i64 0]⟩)/\prog.underlying 40=some (.slice 69)/\cL prog 41=some ⟨3,true,40,[.int .i64 0,.int .i64 0,.slice none 0 0]⟩/\bc prog 41 0=some 0/\bc prog 41 1=some 1/\bc prog 41 2=some 2/\bz prog 41=some [(0,1),(1,1),(2,1)]/\cL prog 42=some ⟨3,true,40,[.int .i64 0,.int .i64 0,.slice none 0 0]⟩/\bc prog 42 0=some 0/\bc prog 42 1=some 1/\bc prog 42 2=some 2/\bz prog 42=some [(0,1),(1,1),(2,1)]/\cL prog 44=some ⟨1,false,8,[.nilFunc]⟩/\cL prog 46=some ⟨1,false,8,[.nilFunc]⟩/\cL prog 47=some ⟨1,false,8,[.nilFunc]⟩/\cL prog 48=some ⟨1,false,8,[.nilFunc]⟩/\cL prog 49=some ⟨1,false,8,[.nilFunc]⟩/\cL prog 50=some ⟨1,false,8,[.nilFunc]⟩/\cL prog 51=some ⟨1,false,8,[.nilFunc]⟩/\cL prog 52=some ⟨1,false,8,[.nilFunc]⟩/\cL prog 53=some ⟨1,false,8,[.nilFunc]⟩/\cL prog 54=some ⟨1,false,8,[.pointer none]⟩/\prog.underlying 54=some (.pointer 26)/\cL prog 55=some ⟨1,false,8,[.nilFunc]⟩/\cL prog 56=some ⟨1,false,8,[.nilFunc]⟩/\cL prog 57=some ⟨5,true,56,[.int .i64 0,.int .i64 0,.int .i64 0,.int .i64 0,.slice none 0 0]⟩/\bc prog 57 0=some 0/\bc prog 57 1=some 1/\bc prog 57 2=some 2/\bc prog 57 3=some 3/\bc prog 57 4=some 4/\bz prog 57=some [(0,1),(1,1),(2,1),(3,1),(4,1)]/\cL prog 58=some ⟨5,true,56,[.int .i64 0,.int .i64 0,.int .i64 0,.int .i64 0,.slice none 0 0]⟩/\bc prog 58 0=some 0/\bc prog 58 1=some 1/\bc prog 58 2=some 2/\bc prog 58 3=some 3/\bc prog 58 4=some 4/\bz prog 58=some [(0,1),(1,1),(2,1),(3,1),(4,1)]/\cL prog 59=some ⟨1,false,8,[.nilFunc]⟩/\cL prog 60=some ⟨1,false,24,[.slice none 0 0]⟩/\HQ prog 60=some 3:=by and_intros <;> kernel_rfl
theorem VO:lS prog 60=some (110,⟨3,true,40,[.int .i64 0,.slice none 0 0,.pointer none]⟩)/\prog.underlying 60=some (.slice 110)/\cL prog 61=some ⟨19,true,224,[.int .i64 0,.slice none 0 0,.slice none 0 0,.int .i64 0,.int .i64 0,.int .i64 0,.int .i64 0,.bool false,.int .i64 0,.bool false,.slice none 0 0,.slice none 0 0,.slice none 0 0,.int .i64 0,.int .i64 0,.int .i64 0,.int .i64 0,.bool false,.bool false]⟩/\bc prog 61 0=some 0/\bc prog 61 1=some 10/\bc prog 61 2=some 11/\bc prog 61 3=some 12/\bc prog 61 4=some 13/\bc prog 61 5=some 14/\bc prog 61 6=some 15/\bc prog 61 7=some 16/\bc prog 61 8=some 17/\bc prog 61 9=some 18/\bz prog 61=some [(0,10),(10,1),(11,1),(12,1),(13,1),(14,1),(15,1),(16,1),(17,1),(18,1)]/\cL prog 62=some ⟨19,true,224,[.int .i64 0,.slice none 0 0,.slice none 0 0,.int .i64 0,.int .i64 0,.int .i64 0,.int .i64 0,.bool false,.int .i64 0,.bool false,.slice none 0 0,.slice none 0 0,.slice none 0 0,.int .i64 0,.int .i64 0,.int .i64 0,.int .i64 0,.bool false,.bool false]⟩/\bc prog 62 0=some 0/\bc prog 62 1=some 10/\bc prog 62 2=some 11/\bc prog 62 3=some 12/\bc prog 62 4=some 13/\bc prog 62 5=some 14/\bc prog 62 6=some 15/\bc prog 62 7=some 16/\bc prog 62 8=some 17/\bc prog 62 9=some 18/\bz prog 62=some [(0,10),(10,1),(11,1),(12,1),(13,1),(14,1),(15,1),(16,1),(17,1),(18,1)]/\cL prog 63=some ⟨1,false,8,[.pointer none]⟩/\prog.underlying 63=some (.pointer 100)/\cL prog 65=some ⟨1,false,8,[.nilFunc]⟩/\cL prog 67=some ⟨1,false,8,[.nilFunc]⟩/\cL prog 68=some ⟨1,false,8,[.nilFunc]⟩/\cL prog 69=some ⟨2,true,16,[.int .i64 0,.int .i64 0]⟩/\HQ prog 69=none/\Ur prog 69=some (2,1)/\bz prog 69=none/\Mw prog 69=some (2,.i64)/\cL prog 70=some ⟨6,true,64,[.int .i64 0,.int .i64 0,.slice none 0 0,.bool false,.int .i64 0,.int .i64 0]⟩/\bc prog 70 0=some 0/\bc prog 70 1=some 3/\bc prog 70 2=some 4/\bc prog 70 3=some 5/\bz prog 70=some [(0,3),(3,1),(4,1),(5,1)]/\cL prog 71=some ⟨6,true,64,[.int .i64 0,.int .i64 0,.slice none 0 0,.bool false,.int .i64 0,.int .i64 0]⟩/\bc prog 71 0=some 0/\bc prog 71 1=some 3/\bc prog 71 2=some 4/\bc prog 71 3=some 5/\bz prog 71=some [(0,3),(3,1),(4,1),(5,1)]/\cL prog 72=some ⟨1,false,8,[.nilFunc]⟩/\cL prog 73=some ⟨1,false,8,[.pointer none]⟩/\prog.underlying 73=some (.pointer 112)/\cL prog 74=some ⟨3,true,40,[.int .i64 0,.slice none 0 0,.pointer none]⟩/\bc prog 74 0=some 0/\bc prog 74 1=some 1/\bc prog 74 2=some 2/\bz prog 74=some [(0,1),(1,1),(2,1)]/\cL prog 75=some ⟨3,true,40,[.int .i64 0,.slice none 0 0,.pointer none]⟩/\bc prog 75 0=some 0/\bc prog 75 1=some 1/\bc prog 75 2=some 2/\bz prog 75=some [(0,1),(1,1),(2,1)]/\cL prog 77=some ⟨1,false,8,[.nilFunc]⟩/\cL prog 78=some ⟨1,false,8,[.nilFunc]⟩/\cL prog 79=some ⟨2,true,16,[.int .i64 0,.int .i64 0]⟩/\bc prog 79 0=some 0/\bc prog 79 1=some 1/\bz prog 79=some [(0,1),(1,1)]/\cL prog 80=some ⟨2,true,16,[.int .i64 0,.int .i64 0]⟩/\bc prog 80 0=some 0/\bc prog 80 1=some 1:=by and_intros <;> kernel_rfl
theorem W8:bz prog 80=some [(0,1),(1,1)]/\cL prog 82=some ⟨1,false,8,[.nilFunc]⟩/\cL prog 83=some ⟨1,false,8,[.nilFunc]⟩/\cL prog 84=some ⟨1,false,8,[.nilFunc]⟩/\cL prog 85=some ⟨1,false,24,[.slice none 0 0]⟩/\HQ prog 85=some 3/\lS prog 85=some (42,⟨3,true,40,[.int .i64 0,.int .i64 0,.slice none 0 0]⟩)/\prog.underlying 85=some (.slice 42)/\cL prog 87=some ⟨1,false,8,[.nilFunc]⟩/\cL prog 88=some ⟨1,false,8,[.nilFunc]⟩/\cL prog 89=some ⟨1,false,8,[.nilFunc]⟩/\cL prog 90=some ⟨1,false,8,[.nilFunc]⟩/\cL prog 91=some ⟨1,false,8,[.nilFunc]⟩/\cL prog 92=some ⟨1,false,8,[.nilFunc]⟩/\cL prog 93=some ⟨1,false,8,[.nilFunc]⟩/\cL prog 94=some ⟨1,false,8,[.nilFunc]⟩/\cL prog 95=some ⟨1,false,8,[.nilFunc]⟩/\cL prog 96=some ⟨1,false,8,[.nilFunc]⟩/\cL prog 97=some ⟨1,false,8,[.nilFunc]⟩/\cL prog 98=some ⟨1,false,8,[.nilFunc]⟩/\cL prog 99=some ⟨5,true,88,[.slice none 0 0,.int .i64 0,.bool false,.slice none 0 0,.slice none 0 0]⟩/\bc prog 99 0=some 0/\bc prog 99 1=some 3/\bc prog 99 2=some 4/\bz prog 99=some [(0,3),(3,1),(4,1)]/\cL prog 100=some ⟨5,true,88,[.slice none 0 0,.int .i64 0,.bool false,.slice none 0 0,.slice none 0 0]⟩/\bc prog 100 0=some 0/\bc prog 100 1=some 3/\bc prog 100 2=some 4/\bz prog 100=some [(0,3),(3,1),(4,1)]/\cL prog 101=some ⟨1,false,8,[.nilFunc]⟩/\cL prog 102=some ⟨1,false,24,[.slice none 0 0]⟩/\HQ prog 102=some 3/\lS prog 102=some (104,⟨3,true,40,[.int .i64 0,.int .i64 0,.slice none 0 0]⟩)/\prog.underlying 102=some (.slice 104)/\cL prog 103=some ⟨3,true,40,[.int .i64 0,.int .i64 0,.slice none 0 0]⟩/\bc prog 103 0=some 0/\bc prog 103 1=some 1/\bc prog 103 2=some 2/\bz prog 103=some [(0,1),(1,1),(2,1)]/\cL prog 104=some ⟨3,true,40,[.int .i64 0,.int .i64 0,.slice none 0 0]⟩/\bc prog 104 0=some 0/\bc prog 104 1=some 1/\bc prog 104 2=some 2/\bz prog 104=some [(0,1),(1,1),(2,1)]/\cL prog 105=some ⟨1,false,8,[.nilFunc]⟩/\cL prog 106=some ⟨1,false,8,[.int .u64 0]⟩/\prog.underlying 106=some (.int .u64)/\cL prog 107=some ⟨1,false,8,[.nilFunc]⟩/\cL prog 108=some ⟨1,false,8,[.nilFunc]⟩/\cL prog 109=some ⟨3,true,40,[.int .i64 0,.slice none 0 0,.pointer none]⟩/\bc prog 109 0=some 0/\bz prog 109=some [(0,3)]/\cL prog 110=some ⟨3,true,40,[.int .i64 0,.slice none 0 0,.pointer none]⟩/\bc prog 110 0=some 0/\bz prog 110=some [(0,3)]/\cL prog 111=some ⟨5,true,40,[.int .i64 0,.pointer none,.int .i64 0,.int .i64 0,.pointer none]⟩/\bc prog 111 0=some 0/\bc prog 111 1=some 1/\bc prog 111 2=some 2/\bc prog 111 3=some 3/\bc prog 111 4=some 4/\bz prog 111=some [(0,1),(1,1),(2,1),(3,1),(4,1)]/\cL prog 112=some ⟨5,true,40,[.int .i64 0,.pointer none,.int .i64 0,.int .i64 0,.pointer none]⟩/\bc prog 112 0=some 0/\bc prog 112 1=some 1/\bc prog 112 2=some 2/\bc prog 112 3=some 3/\bc prog 112 4=some 4/\bz prog 112=some [(0,1),(1,1),(2,1),(3,1),(4,1)]:=by and_intros <;> kernel_rfl
theorem VC:cL prog 113=some ⟨1,false,8,[.pointer none]⟩/\prog.underlying 113=some (.pointer 115)/\cL prog 114=some ⟨5,true,56,[.slice none 0 0,.int .i64 0,.int .i64 0,.int .i64 0,.int .i64 0]⟩/\bc prog 114 0=some 0/\bc prog 114 1=some 1/\bc prog 114 2=some 2/\bc prog 114 3=some 3/\bc prog 114 4=some 4/\bz prog 114=some [(0,1),(1,1),(2,1),(3,1),(4,1)]/\cL prog 115=some ⟨5,true,56,[.slice none 0 0,.int .i64 0,.int .i64 0,.int .i64 0,.int .i64 0]⟩/\bc prog 115 0=some 0/\bc prog 115 1=some 1/\bc prog 115 2=some 2/\bc prog 115 3=some 3/\bc prog 115 4=some 4/\bz prog 115=some [(0,1),(1,1),(2,1),(3,1),(4,1)]/\cL prog 116=some ⟨1,false,8,[.nilFunc]⟩/\cL prog 117=some ⟨1,false,8,[.nilFunc]⟩/\cL prog 118=some ⟨1,false,8,[.nilFunc]⟩/\cL prog 119=some ⟨1,false,8,[.pointer none]⟩/\prog.underlying 119=some (.pointer 122)/\cL prog 120=some ⟨1,false,24,[.slice none 0 0]⟩/\HQ prog 120=some 1/\lS prog 120=some (40,⟨1,false,24,[.slice none 0 0]⟩)/\prog.underlying 120=some (.slice 40)/\cL prog 121=some ⟨7,true,104,[.slice none 0 0,.int .i64 0,.int .i64 0,.int .i64 0,.bool false,.slice none 0 0,.slice none 0 0]⟩/\bc prog 121 0=some 0/\bc prog 121 1=some 1/\bc prog 121 2=some 2/\bc prog 121 3=some 3/\bc prog 121 4=some 4/\bc prog 121 5=some 5/\bc prog 121 6=some 6/\bz prog 121=some [(0,1),(1,1),(2,1),(3,1),(4,1),(5,1),(6,1)]/\cL prog 122=some ⟨7,true,104,[.slice none 0 0,.int .i64 0,.int .i64 0,.int .i64 0,.bool false,.slice none 0 0,.slice none 0 0]⟩/\bc prog 122 0=some 0/\bc prog 122 1=some 1/\bc prog 122 2=some 2/\bc prog 122 3=some 3/\bc prog 122 4=some 4/\bc prog 122 5=some 5/\bc prog 122 6=some 6/\bz prog 122=some [(0,1),(1,1),(2,1),(3,1),(4,1),(5,1),(6,1)]/\cL prog 123=some ⟨1,false,8,[.nilFunc]⟩/\cL prog 124=some ⟨1,false,8,[.pointer none]⟩/\prog.underlying 124=some (.pointer 126)/\cL prog 125=some ⟨12,true,128,[.int .i64 0,.int .i64 0,.slice none 0 0,.slice none 0 0,.int .i64 0,.int .i64 0,.int .i64 0,.int .i64 0,.bool false,.int .i64 0,.int .i64 0,.pointer none]⟩/\bc prog 125 0=some 0/\bc prog 125 1=some 1/\bc prog 125 2=some 9/\bc prog 125 3=some 10/\bc prog 125 4=some 11/\bz prog 125=some [(0,1),(1,8),(9,1),(10,1),(11,1)]/\cL prog 126=some ⟨12,true,128,[.int .i64 0,.int .i64 0,.slice none 0 0,.slice none 0 0,.int .i64 0,.int .i64 0,.int .i64 0,.int .i64 0,.bool false,.int .i64 0,.int .i64 0,.pointer none]⟩/\bc prog 126 0=some 0/\bc prog 126 1=some 1/\bc prog 126 2=some 9/\bc prog 126 3=some 10/\bc prog 126 4=some 11/\bz prog 126=some [(0,1),(1,8),(9,1),(10,1),(11,1)]/\cL prog 127=some ⟨1,false,8,[.nilFunc]⟩/\cL prog 128=some ⟨1,false,8,[.nilFunc]⟩/\cL prog 129=some ⟨1,false,8,[.nilFunc]⟩/\cL prog 130=some ⟨1,false,8,[.nilFunc]⟩/\cL prog 131=some ⟨1,false,8,[.nilFunc]⟩/\cL prog 132=some ⟨1,false,8,[.pointer none]⟩/\prog.underlying 132=some (.pointer 58)/\cL prog 133=some ⟨1,false,8,[.nilFunc]⟩/\cL prog 134=some ⟨1,false,8,[.nilFunc]⟩/\cL prog 135=some ⟨1,false,8,[.nilFunc]⟩:=by and_intros <;> kernel_rfl
theorem WV:cL prog 136=some ⟨1,false,8,[.nilFunc]⟩/\cL prog 137=some ⟨1,false,8,[.nilFunc]⟩/\cL prog 138=some ⟨1,false,8,[.nilFunc]⟩/\cL prog 139=some ⟨1,false,8,[.nilFunc]⟩/\cL prog 140=some ⟨1,false,8,[.nilFunc]⟩/\cL prog 141=some ⟨1,false,8,[.nilFunc]⟩/\cL prog 142=some ⟨1,false,8,[.nilFunc]⟩/\cL prog 143=some ⟨1,false,8,[.nilFunc]⟩/\cL prog 144=some ⟨1,false,8,[.nilFunc]⟩/\cL prog 145=some ⟨3,true,24,[.int .i64 0,.int .i64 0,.int .i64 0]⟩/\bc prog 145 0=some 0/\bc prog 145 1=some 1/\bc prog 145 2=some 2/\bz prog 145=some [(0,1),(1,1),(2,1)]/\cL prog 146=some ⟨3,true,24,[.int .i64 0,.int .i64 0,.int .i64 0]⟩/\bc prog 146 0=some 0/\bc prog 146 1=some 1/\bc prog 146 2=some 2/\bz prog 146=some [(0,1),(1,1),(2,1)]/\cL prog 147=some ⟨1,false,8,[.nilFunc]⟩/\cL prog 148=some ⟨1,false,8,[.nilFunc]⟩/\cL prog 149=some ⟨1,false,24,[.slice none 0 0]⟩/\HQ prog 149=some 1/\lS prog 149=some (23,⟨1,false,24,[.slice none 0 0]⟩)/\prog.underlying 149=some (.slice 23)/\cL prog 150=some ⟨1,false,8,[.nilFunc]⟩/\cL prog 151=some ⟨1,false,8,[.nilFunc]⟩/\cL prog 153=some ⟨1,false,8,[.nilFunc]⟩/\cL prog 154=some ⟨1,false,8,[.nilFunc]⟩/\cL prog 156=some ⟨1,false,8,[.nilFunc]⟩/\cL prog 157=some ⟨1,false,8,[.nilFunc]⟩/\cL prog 159=some ⟨1,false,8,[.nilFunc]⟩/\cL prog 160=some ⟨1,false,8,[.nilFunc]⟩/\cL prog 161=some ⟨4,true,40,[.pointer none,.pointer none,.pointer none,.string ⟨#[]⟩]⟩/\bc prog 161 0=some 0/\bc prog 161 1=some 1/\bc prog 161 2=some 2/\bc prog 161 3=some 3/\bz prog 161=some [(0,1),(1,1),(2,1),(3,1)]/\cL prog 163=some ⟨0,true,0,[]⟩/\HQ prog 163=none/\Ur prog 163=some (0,1)/\bz prog 163=none/\cL prog 164=some ⟨0,true,0,[]⟩/\bz prog 164=some [(0,0)]/\cL prog 166=some ⟨1,false,8,[.nilFunc]⟩/\cL prog 167=some ⟨1,false,4,[.int .u32 0]⟩/\prog.underlying 167=some (.int .u32)/\cL prog 170=some ⟨1,false,8,[.nilFunc]⟩/\cL prog 171=some ⟨1,false,8,[.pointer none]⟩/\prog.underlying 171=some (.pointer 5)/\cL prog 174=some ⟨11,true,48,[.int .u64 0,.int .u64 0,.int .u32 0,.int .u8 0,.int .u8 0,.int .u8 0,.int .u8 0,.nilFunc,.pointer none,.int .i32 0,.int .i32 0]⟩/\bc prog 174 0=some 0/\bc prog 174 1=some 1/\bc prog 174 2=some 2/\bc prog 174 3=some 3/\bc prog 174 4=some 4/\bc prog 174 5=some 5/\bc prog 174 6=some 6/\bc prog 174 7=some 7/\bc prog 174 8=some 8/\bc prog 174 9=some 9/\bc prog 174 10=some 10/\bz prog 174=some [(0,1),(1,1),(2,1),(3,1),(4,1),(5,1),(6,1),(7,1),(8,1),(9,1),(10,1)]:=by and_intros <;> kernel_rfl
def oY:=And.intro @WC<|And.intro @VY<|And.intro @VO<|And.intro @W8<|And.intro @VC @WV
def iD (n:Int):D:=.sc (.int .i64 n)
def bD (b:Bool):D:=.sc (.bool b)
def i64 (n:Int):V:=.d (.sc (.int .i64 n))
def bV (b:Bool):V:=.d (.sc (.bool b))
abbrev av (l:List Int):D:=.sl (l.map λx=>[iD x])
theorem bM (n:Int) (h:-9223372036854775808<=n/\n<=9223372036854775807):IntKind.i64.wrap n=n:=IntWalk.i64_in n h
def aN (s:Int×Int):List D:=[iD s.1,iD s.2]
inductive Re where
 |mk (op:Int) (set:List (Int×Int)) (kids:List Re) (mn mx mode n:Int) (neg:Bool)
def Re.op:Re->Int|.mk x _ _ _ _ _ _ _=>x
def Re.set:Re->List (Int×Int)|.mk _ x _ _ _ _ _ _=>x
def Re.kids:Re->List Re|.mk _ _ x _ _ _ _ _=>x
def Re.mn:Re->Int|.mk _ _ _ x _ _ _ _=>x
def Re.mx:Re->Int|.mk _ _ _ _ x _ _ _=>x
def Re.mode:Re->Int|.mk _ _ _ _ _ x _ _=>x
def Re.n:Re->Int|.mk _ _ _ _ _ _ x _=>x
def Re.neg:Re->Bool|.mk _ _ _ _ _ _ _ x=>x
mutual
def Re.cells:Re->List D
 |.mk op set kids mn mx mode n neg=>[iD op,.sl (set.map aN),.sl (Re.z7 kids),iD mn,iD mx,iD mode,iD n,bD neg]
def Re.z7:List Re->List (List D)
 |[]=>[]
 |k::l=>k.cells::Re.z7 l
end
theorem Re.BT:∀l:List Re,Re.z7 l=l.map Re.cells
 |[]=>by simp [Re.z7]
 |k::l=>by simp [Re.z7,Re.BT l]
theorem Re.ae (re:Re):re.cells=[iD re.op,.sl (re.set.map aN),.sl (re.kids.map Re.cells),iD re.mn,iD re.mx,iD re.mode,iD re.n,bD re.neg]:=by
 cases re;simp [Re.cells,Re.BT,Re.op,Re.set,Re.kids,Re.mn,Re.mx,Re.mode,Re.n,Re.neg]
theorem Re.gU (re:Re):re.cells.length=8:=by rw[Re.ae];rfl
def lQ (re:Re):V:=.ag (re.cells.map .d)
theorem Ak (re:Re):(re.cells.map V.d).take 8=re.cells.map V.d:=adT (by simp [Re.gU])
theorem Aq (re:Re):(re.cells.map V.d).drop 8=[]:=List.drop_of_length_le (by simp [Re.gU])
theorem EP (re:Re):V.ag (re.cells.map V.d)=lQ re:=rfl
theorem aq (re:Re):lQ re=.ag [.d (iD re.op),.d (.sl (re.set.map aN)),.d (.sl (re.kids.map Re.cells)),.d (iD re.mn),.d (iD re.mx),.d (iD re.mode),.d (iD re.n),.d (bD re.neg)]:=by rw[lQ,Re.ae];rfl
theorem bG (ρ:List Nat) (re:Re):aX ρ (lQ re)=lQ re:=by rw[aq];rfl
def bP (re:Re):V:=.d (.el re.cells)
mutual
def Re.size:Re->Nat
 |.mk _ _ kids _ _ _ _ _=>1+Re.dT kids
def Re.dT:List Re->Nat
 |[]=>0
 |k::l=>k.size+Re.dT l
end
theorem Re.size_eq (re:Re):re.size=1+Re.dT re.kids:=by cases re;simp [Re.size,Re.kids]
theorem Re.size_pos (re:Re):0<re.size:=by rw[Re.size_eq];omega
theorem Re.wO:∀{l:List Re}{k:Re},k∈l->k.size<=Re.dT l
 |k'::l,k,h=>by
  simp only[Re.dT];rcases List.mem_cons.1 h with rfl|h
  ·omega
  ·have:=Re.wO h;omega
theorem Re.dr {re k:Re} (h:k∈re.kids):k.size<re.size:=by have:=Re.wO h;rw[Re.size_eq re];omega
theorem Re.ot:∀l:List Re,l.length<=Re.dT l
 |[]=>by simp
 |k::l=>by simp only[adA,Re.dT];have:=Re.ot l;have:=k.size_pos;omega
theorem cy {α:Type}{l:List α}{i:Nat}{x:α} (h:l[i]?=some x):l.take (i+1)=l.take i++[x]:=by rw[List.take_add_one,h];rfl
theorem Re.mf:∀a b:List Re,Re.dT (a++b)=Re.dT a+Re.dT b
 |[],b=>by simp [Re.dT]
 |k::l,b=>by simp only[adr,Re.dT,Re.mf l b];omega
theorem Re.Ik (l:List Re) (i:Nat):Re.dT (l.take i)<=Re.dT l:=by
 conv=>rhs;rw[<- List.take_append_drop i l]
 rw[Re.mf];omega
theorem zh (re:Re):eI (lQ re)=some (re.cells.map V.d):=rfl
theorem mapM_some {α β:Type} (f:α->Option β) (g:β->α) (h:∀x,f (g x)=some x):∀l:List β,(l.map g).mapM f=some l
 |[]=>rfl
 |x::l=>by rw[adG,List.mapM_cons,h,mapM_some f g h l];rfl
theorem Fu (cs:List D):(cs.map V.d).mapM MU=some cs:=mapM_some MU V.d (λ_=>rfl) cs
theorem H3 (n ck:Nat) (s:List VL.Obj) (x:D):cE n ck s (.d x)=some x:=by cases n <;> rfl
theorem wy (n ck:Nat) (s:List VL.Obj) (cs:List D):(cs.map V.d).mapM (cE n ck s)=some cs:=mapM_some (cE n ck s) V.d (H3 n ck s) cs
theorem sN (n ck:Nat) (s:List VL.Obj) (l:List (List D)):(l.map λc=>c.map V.d).mapM (λ(e:List V)=>e.mapM (cE n ck s))=some l:=mapM_some (λ(e:List V)=>e.mapM (cE n ck s)) (λc=>c.map V.d) (wy n ck s) l
theorem Re.ind {Q:Re->Prop} (h:∀re,(∀k∈re.kids,Q k)->Q re) (re:Re):Q re:=by
 induction hn:re.size using Nat.strongRecOn generalizing re with
 |_ n ih=>exact h re λk hk=>ih k.size (by have:=Re.dr hk;omega) k rfl
def A1:=ac @zh @Fu @wy @sN @H3 @Re.gU @Ak<|And.intro @Aq @EP
def zX:=And.intro Ee<|And.intro A1<|And.intro Bm<|And.intro oY @dH.eq_1
def zW:=And.intro YD<|And.intro A1<|And.intro Bm<|And.intro oY @dH.eq_1
def zU:=ac @Cz @List.contains_cons.{0} @List.contains_nil.{0} aea adY Bool.or_true ad4<|And.intro @cB.eq_1<|And.intro @mC<|And.intro @kJ<|And.intro @br<|And.intro @if_true.{1} @if_false.{1}
theorem Mr (ck:Nat) (re:Re):ak ck (lQ re)=true:=by unfold lQ;rw[ak,I8]
theorem I4 (re:Re):re.size<=1000000000->ba prog 85 [lQ re] (i64 re.size):=by
 induction re using Re.ind with
 |h re ih =>
 intro hs;have hlen:=Re.ot re.kids;have gf:=Re.size_eq re;refine ar func85 rfl ntmps85 results85 rfl 0 31 (by simp) (by simp) ?_;simp only[zW,simprocAttr,aq re,iD,bD];refine aJ (λn e s=>∃i:Nat,n=re.kids.length-i/\i<=re.kids.length/\e 1=.rf 0 0 0 0/\e 3=i64 (1+Re.dT (re.kids.take i):Nat)/\e 4=i64 i/\s=[⟨0,true,8,[re.cells.map .d]⟩]) ⟨_,_,_,cU.refl,0,rfl,by simp,rfl,rfl,rfl,by simp [Re.ae re,iD,bD]⟩ ?_;rintro n e s ⟨i,rfl,hi,h1,h3,h4,rfl⟩;rcases adV i re.kids.length with aH|iP
 ·obtain⟨k,hk⟩:∃k,re.kids[i]?=some k:=⟨_,adn aH⟩
  have hm:=adw hk;have Mu:=Re.dr hm;simp only[zW,simprocAttr,Re.ae re,iD,bD,h1,h3,h4,i64,aH,hk];refine az (ih k hm (by omega)) (by simp [ak,ak.go,aq,i64,bV,bP]) (by simp [ak,ak.go,aq,i64,bV,bP]) ?_;have h5:=Re.Ik re.kids (i+1);rw[cy hk,Re.mf]at h5;simp only[Re.dT]at h5;simp only[zW,simprocAttr,Re.ae re,iD,bD,h1,h3,h4,i64,aH,hk];refine⟨_,_,_,?_,cU.refl,i+1,rfl,aH,?_⟩
  ·omega
  simp only[cB,Nat.reduceEqDiff,if_true,if_false];refine⟨h1,?_,?_,by simp [Re.ae re,iD,bD]⟩
  ·rw[bM _ (by omega),cy hk,Re.mf];simp only[Re.dT,i64];congr 3;omega
  ·rw[bM _ (by omega)];rfl
 ·have fy:i=re.kids.length:=by omega
  subst fy;simp only[zW,simprocAttr,Re.ae re,iD,bD,h1,h3,h4,i64,Nat.lt_irrefl];simp [gf]
theorem mix:prog.follows .mixedOrders=true:=by rfl
def kg (n:Int):Prop:=-9223372036854775808<=n/\n<=9223372036854775807
def Al (n ai:Int):Int:=if n<0 then (-(n+1)).tmod ai else n.tmod ai
theorem MG (n m:Int) (hm:1<=m) (hn:kg n):ba prog 71 [i64 n,i64 m] (i64 (Al n m)):=by
 unfold kg at hn;refine ar func71 rfl ntmps71 results71 rfl 0 19 (by simp) (by simp) ?_;simp only[YD,A1,Bm,dH,simprocAttr,i64];refine⟨λh=>⟨by omega,?_⟩,λh=>⟨by omega,?_⟩⟩
 ·rw[bM (n+1) (by omega),bM _ (by omega)];simp [Al,h]
 ·simp [Al,h]
def pick (l:List Int) (i:Int) (ai:Int):Int:=if i<0\/l.length<=i then 0 else Al (l[i.toNat]?.getD 0) ai
theorem Kv (l:List Int) (hl:∀x∈l,kg x) (i m:Int) (hm:1<=m):ba prog 50 [.d (av l),i64 i,i64 m] (i64 (pick l i m)):=by
 refine ar func50 rfl ntmps50 results50 rfl 0 71 (by simp) (by simp) ?_;by_cases h0:i<0
 ·simp only[zW,simprocAttr,i64,av,iD,h0];simp [h0,pick]
 ·by_cases h1:(l.length:Int)<=i
  ·simp only[zW,simprocAttr,i64,av,iD,h0,h1,ge_iff_le];simp [h0,pick];omega
  ·have aH:i.toNat<l.length:=by omega
   obtain⟨x,hx⟩:∃x,l[i.toNat]?=some x:=⟨_,adn aH⟩
   simp only[zW,simprocAttr,i64,av,iD,h0,h1,ge_iff_le,hx,show 0<=i by omega,show i<l.length by omega];refine az (MG x m hm (hl x (adw hx))) rfl rfl ?_;simp only[zW,simprocAttr,i64];simp [h0,pick,hx];omega
structure Mk where
 l:List Int
 pos:Int
 cu:Int
 left:Int
 ah:Int
def cb (m:Mk):VL.Obj:=⟨0,true,5,[[.d (av m.l),i64 m.pos,i64 m.cu,i64 m.left,i64 m.ah]]⟩
def cG:V:=.rf 0 0 0 0
structure Mk.ok (m:Mk):Prop where
 l:∀x∈m.l,kg x
 pos:0<=m.pos/\m.pos<=1000000000
 left:-1000000000<=m.left/\m.left<=1000000000
 ah:0<=m.ah/\m.ah<=1000000000
def Mk.next (m:Mk) (n:Int):Int×Mk:=(pick m.l m.pos n,{ m with pos:=m.pos+1 })
theorem cj (m:Mk) (hl:∀x∈m.l,kg x) (hp:0<=m.pos/\m.pos<=1000000000) (n:Int) (hn:1<=n):au prog 66 [cG,i64 n] [cb m] λv s=>v=i64 (m.next n).1/\s=[cb (m.next n).2]:=by
 have w1:IntKind.i64.wrap (m.pos+1)=m.pos+1:=bM _ (by omega);have w2:IntKind.i64.wrap (m.pos+1-1)=m.pos:=by rw[bM _ (by omega)];omega
 refine ar func66 rfl ntmps66 results66 rfl 1 19 (by simp) (by simp) ?_;simp only[zW,simprocAttr,i64,cG,cb,w1,w2];refine ao mix [] [] (by rfl) ?_;simp only[zW,simprocAttr,i64,cG,cb,w1,w2];refine bY (Kv m.l hl m.pos n hn) rfl rfl ?_;simp only[zW,simprocAttr,i64,cG,cb,w1,w2,Mk.next]
def oW:List (List (Int×Int)):=[[(97,97)],[(98,98)],[(97,98)],[(99,99)],[(97,99)],[(0,96),(98,255)],[(10,10),(97,97)],[]]
def Re.PN (set:List (Int×Int)):Re:=.mk 1 set [] 0 0 0 0 false
def Mk.set (m:Mk):Re×Mk :=
 let (k,m1):=m.next 15
 (Re.PN ((oW[(k / 2).toNat]?).getD []),m1)
theorem ct (l:List Int) (i m:Int) (hm:1<=m):0<=pick l i m/\pick l i m<m:=by
 unfold pick Al;split
 ·omega
 ·split
  ·rename_i h;have h1:0<=-(l[i.toNat]?.getD 0+1):=by omega
   exact⟨Int.tmod_nonneg _ h1,Int.tmod_lt_of_pos _ (by omega)⟩
  ·rename_i h;exact⟨Int.tmod_nonneg _ (by omega),Int.tmod_lt_of_pos _ (by omega)⟩
theorem iU (m:Mk) (hl:∀x∈m.l,kg x) (hp:0<=m.pos/\m.pos<=1000000000):au prog 67 [cG] [cb m] λv s=>v=lQ m.set.1/\s=[cb m.set.2]:=by
 have hk:=ct m.l m.pos 15 (by omega);have hd:(pick m.l m.pos 15).tdiv 2=pick m.l m.pos 15 / 2:=by rw[Int.tdiv_eq_ediv_of_nonneg hk.1]
 have w1:IntKind.i64.wrap (pick m.l m.pos 15 / 2)=pick m.l m.pos 15 / 2:=bM _ (by omega);refine ar func67 rfl ntmps67 results67 rfl 1 13 (by simp) (by simp) ?_;simp only[zW,simprocAttr,i64,cG];refine aP (cj m hl hp 15 (by omega)) rfl rfl rfl rfl rfl rfl ?_;have hc:pick m.l m.pos 15 / 2=0\/pick m.l m.pos 15 / 2=1\/pick m.l m.pos 15 / 2=2\/pick m.l m.pos 15 / 2=3\/pick m.l m.pos 15 / 2=4\/pick m.l m.pos 15 / 2=5\/pick m.l m.pos 15 / 2=6\/pick m.l m.pos 15 / 2=7:=by omega
 simp only[zW,simprocAttr,i64,cG,Mk.next,hd,w1];rcases hc with hc|hc|hc|hc|hc|hc|hc|hc <;> (simp only[zW,simprocAttr,hc,Mk.set,Mk.next,oW,Re.PN,Int.toNat_zero,lQ,Re.cells];first|exact⟨by omega,rfl,rfl⟩|exact⟨rfl,rfl⟩|rfl)
mutual
def Re.pg:Re->Bool
 |.mk op _ kids mn _ _ _ _=>if op=1 then false else if op=2 then Re.oq kids else if op=3\/op=10 then Re.od kids else if op=4 then decide (mn<=0)||Re.lC kids else if op=5\/op=9 then Re.lC kids else true
def Re.oq:List Re->Bool
 |[]=>true
 |k::l=>k.pg&&Re.oq l
def Re.od:List Re->Bool
 |[]=>false
 |k::l=>k.pg||Re.od l
def Re.lC:List Re->Bool
 |[]=>false
 |k::_=>k.pg
end
theorem Re.jA (re:Re):re.pg=if re.op=1 then false else if re.op=2 then Re.oq re.kids else if re.op=3\/re.op=10 then Re.od re.kids else if re.op=4 then decide (re.mn<=0)||Re.lC re.kids else if re.op=5\/re.op=9 then Re.lC re.kids else true:=by
 cases re;simp only[Re.pg,Re.op,Re.kids,Re.mn];rfl
theorem Re.qd:∀l:List Re,Re.oq l=l.all Re.pg
 |[]=>rfl
 |k::l=>by simp [Re.oq,Re.qd l]
theorem Re.qg:∀l:List Re,Re.od l=l.any Re.pg
 |[]=>rfl
 |k::l=>by simp [Re.od,Re.qg l]
theorem eF {α:Type}{l:List α}{i:Nat}{k x:α} (h:l[i]?=some k) (hx:x∈l.take (i+1)):x∈l.take i\/x=k:=by rw[cy h]at hx;simpa using hx
theorem iu (re:Re):re.size<=1000000000->ba prog 30 [lQ re] (bV re.pg):=by
 induction re using Re.ind with
 |h re ih =>
 intro hs;have hlen:=Re.ot re.kids;have gf:=Re.size_eq re;refine ar func30 rfl ntmps30 results30 rfl 0 576460752336978015 (by simp) (by simp) ?_;by_cases o1:re.op=1
 ·simp only[zW,simprocAttr,aq re,iD,bD,bV,o1,Re.jA re]
 by_cases o2:re.op=2
 ·simp only[zW,simprocAttr,aq re,iD,bD,bV,o2];refine aJ (λn e s=>∃i:Nat,n=re.kids.length-i/\i<=re.kids.length/\e 1=.rf 0 0 0 0/\e 3=i64 i/\(∀x∈re.kids.take i,x.pg=true)/\s=[⟨0,true,8,[re.cells.map .d]⟩]) ⟨_,_,_,cU.refl,0,rfl,by simp,rfl,rfl,by simp,by simp [Re.ae re,iD,bD,o2]⟩ ?_;rintro n e s ⟨i,rfl,hi,h1,h3,hn,rfl⟩;rcases adV i re.kids.length with aH|iP
  ·obtain⟨k,hk⟩:∃k,re.kids[i]?=some k:=⟨_,adn aH⟩
   have hm:=adw hk;have Mu:=Re.dr hm;simp only[zW,simprocAttr,Re.ae re,iD,bD,h1,h3,i64,aH,hk];refine az (ih k hm (by omega)) (by simp [ak,ak.go,aq,i64,bV,bP]) (by simp [ak,ak.go,aq,i64,bV,bP]) ?_;cases jl:k.pg with
   |false =>
    simp only[zW,simprocAttr,bV,jl];have:Re.oq re.kids=false:=by rw[Re.qd,List.all_eq_false];exact⟨k,hm,by simp [jl]⟩
    simp [Re.jA re,o2,this]
   |true =>
    simp only[zW,simprocAttr,bV,jl,h3,i64];refine⟨_,_,_,?_,cU.refl,i+1,rfl,aH,?_⟩
    ·omega
    simp only[cB,Nat.reduceEqDiff,if_true,if_false];refine⟨h1,?_,λx hx=>?_,by simp [Re.ae re,iD,bD]⟩
    ·rw[bM _ (by omega)];rfl
    ·rcases eF hk hx with h|rfl
     ·exact hn x h
     ·exact jl
  ·have fy:i=re.kids.length:=by omega
   subst fy;simp only[zW,simprocAttr,Re.ae re,iD,bD,h1,h3,i64,Nat.lt_irrefl,bV];have:Re.oq re.kids=true:=by rw[Re.qd,adE];simpa using hn
   simp [Re.jA re,o2,this]
 by_cases o3:re.op=3\/re.op=10
 ·have hr:re.pg=Re.od re.kids:=by simp [Re.jA re,o1,o2,o3]
  rcases o3 with o3|o3;all_goals
   simp only[zW,simprocAttr,aq re,iD,bD,bV,o1,o2,o3];refine aJ (λn e s=>∃i:Nat,n=re.kids.length-i/\i<=re.kids.length/\e 1=.rf 0 0 0 0/\e 4=i64 i/\(∀x∈re.kids.take i,x.pg=false)/\s=[⟨0,true,8,[re.cells.map .d]⟩]) ⟨_,_,_,cU.refl,0,rfl,by simp,rfl,rfl,by simp,by simp [Re.ae re,iD,bD,o3]⟩ ?_;rintro n e s ⟨i,rfl,hi,h1,h3,hn,rfl⟩;rcases adV i re.kids.length with aH|iP
   ·obtain⟨k,hk⟩:∃k,re.kids[i]?=some k:=⟨_,adn aH⟩
    have hm:=adw hk;have Mu:=Re.dr hm;simp only[zW,simprocAttr,Re.ae re,iD,bD,h1,h3,i64,aH,hk];refine az (ih k hm (by omega)) (by simp [ak,ak.go,aq,i64,bV,bP]) (by simp [ak,ak.go,aq,i64,bV,bP]) ?_;cases jl:k.pg with
    |true =>
     simp only[zW,simprocAttr,bV,jl];have:Re.od re.kids=true:=by rw[Re.qg,List.any_eq_true];exact⟨k,hm,by simp [jl]⟩
     simp [hr,this]
    |false =>
     simp only[zW,simprocAttr,bV,jl,h3,i64];refine⟨_,_,_,?_,cU.refl,i+1,rfl,aH,?_⟩
     ·omega
     simp only[cB,Nat.reduceEqDiff,if_true,if_false];refine⟨h1,?_,λx hx=>?_,by simp [Re.ae re,iD,bD]⟩
     ·rw[bM _ (by omega)];rfl
     ·rcases eF hk hx with h|rfl
      ·exact hn x h
      ·exact jl
   ·have fy:i=re.kids.length:=by omega
    subst fy;simp only[zW,simprocAttr,Re.ae re,iD,bD,h1,h3,i64,Nat.lt_irrefl,bV];have:Re.od re.kids=false:=by rw[Re.qg,List.any_eq_false];simpa using hn
    simp [hr,this]
 have PX:¬re.op=3:=λh=>o3 (.inl h);have rF:¬re.op=10:=λh=>o3 (.inr h);by_cases o4:re.op=4
 ·have hr:re.pg=(decide (re.mn<=0)||Re.lC re.kids):=by simp [Re.jA re,o4]
  by_cases hmn:re.mn<=0
  ·simp only[zW,simprocAttr,aq re,iD,bD,bV,o1,o2,PX,rF,o4,hmn];simp [hr,hmn]
  cases hk:re.kids with
  |nil =>
   simp only[zW,simprocAttr,aq re,iD,bD,bV,o1,o2,PX,rF,o4,hmn,hk,adP];simp [hr,hmn,hk,Re.lC]
  |cons k l =>
   have hm:k∈re.kids:=by simp [hk]
   have Mu:=Re.dr hm;have dx:(0:Int)<((l.length+1:Nat):Int):=by omega
   simp only[zW,simprocAttr,aq re,iD,bD,bV,o1,o2,PX,rF,o4,hmn,hk,adG,dx];refine az (ih k hm (by omega)) (by simp [ak,ak.go,aq,i64,bV,bP]) (by simp [ak,ak.go,aq,i64,bV,bP]) ?_;cases jl:k.pg with
   |true =>
    simp only[zW,simprocAttr,bV,jl];simp [hr,hmn,hk,Re.lC,jl]
   |false =>
    simp only[zW,simprocAttr,bV,jl];simp [hr,hmn,hk,Re.lC,jl]
 by_cases o5:re.op=5\/re.op=9
 ·have hr:re.pg=Re.lC re.kids:=by simp [Re.jA re,o1,o2,o3,o4,o5]
  rcases o5 with o5|o5;all_goals
   cases hk:re.kids with
   |nil =>
    simp only[zW,simprocAttr,aq re,iD,bD,bV,o1,o2,PX,rF,o4,o5,hk,adP];simp [hr,hk,Re.lC]
   |cons k l =>
    have hm:k∈re.kids:=by simp [hk]
    have Mu:=Re.dr hm;have dx:(0:Int)<((l.length+1:Nat):Int):=by omega
    simp only[zW,simprocAttr,aq re,iD,bD,bV,o1,o2,PX,rF,o4,o5,hk,adG,dx];refine az (ih k hm (by omega)) (by simp [ak,ak.go,aq,i64,bV,bP]) (by simp [ak,ak.go,aq,i64,bV,bP]) ?_;cases jl:k.pg with
    |true =>
     simp only[zW,simprocAttr,bV,jl];simp [hr,hk,Re.lC,jl]
    |false =>
     simp only[zW,simprocAttr,bV,jl];simp [hr,hk,Re.lC,jl]
 have YP:¬re.op=5:=λh=>o5 (.inl h);have o9:¬re.op=9:=λh=>o5 (.inr h);simp only[zW,simprocAttr,aq re,iD,bD,bV,o1,o2,PX,rF,o4,YP,o9];simp [Re.jA re,o1,o2,o3,o4,o5]
def uL (a b:Int):Int:=if a<0\/b<0 then -1 else min (IntKind.i64.wrap (a+b)) 1000000
def zL (a b:Int):Int:=if a<0\/b<0 then -1 else max a b
def jC (a b:Int):Int:=if a=0\/b=0 then 0 else if a<0\/b<0 then -1 else min (IntKind.i64.wrap (a*b)) 1000000
def Yv (l:List (Int×Int)):Int×Int:=l.foldl (λa k=>(uL a.1 k.1,uL a.2 k.2)) (0,0)
def x5 (a k:Int×Int):Int×Int:=(min a.1 k.1,zL a.2 k.2)
def L2:List (Int×Int)->Int×Int
 |[]=>(0,0)
 |k::l=>l.foldl x5 (x5 k k)
def IM (op mn mx:Int) (l:List (Int×Int)):Int×Int :=
 if op=1 then (1,1)
 else if op=6 then (0,-1)
 else if op=2 then Yv l
 else if op=3\/op=10\/op=4\/op=5\/op=9 then
  (if op=4 then (jC (L2 l).1 mn,jC (L2 l).2 mx) else L2 l)
 else (0,0)
mutual
def Re.lens:Re->Int×Int
 |.mk op _ kids mn mx _ _ _=>IM op mn mx (Re.Fo kids)
def Re.Fo:List Re->List (Int×Int)
 |[]=>[]
 |k::l=>k.lens::Re.Fo l
end
theorem Re.FF:∀l:List Re,Re.Fo l=l.map Re.lens
 |[]=>by simp [Re.Fo]
 |k::l=>by simp [Re.Fo,Re.FF l]
theorem Re.RN (re:Re):re.lens=IM re.op re.mn re.mx (re.kids.map Re.lens):=by
 cases re;simp [Re.lens,Re.FF,Re.op,Re.mn,Re.mx,Re.kids]
def ky (f:FuncId):VL.Obj:=⟨0,true,1,[[.cl (.func f) [] [.rf 0 0 0 0]]]⟩
mutual
def Re.eN:Re->Bool
 |.mk _ set kids _ _ _ _ _=>decide (set.length<=1000000000)&&(decide (kids.length<=1000000000)&&Re.KD kids)
def Re.KD:List Re->Bool
 |[]=>true
 |k::l=>k.eN&&Re.KD l
end
theorem Re.CB:∀l:List Re,Re.KD l=l.all Re.eN
 |[]=>rfl
 |k::l=>by simp [Re.KD,Re.CB l]
theorem Re.Aw (re:Re):re.eN=true ↔ re.set.length<=1000000000/\re.kids.length<=1000000000/\∀k∈re.kids,k.eN=true:=by
 cases re with
 |mk op set kids mn mx mode n neg=>simp only[Re.eN,adD,adC,Re.CB,adE,Re.set,Re.kids]
theorem Re.fC {re:Re} (h:re.eN=true):re.set.length<=1000000000/\re.kids.length<=1000000000/\∀k∈re.kids,k.eN=true:=(Re.Aw re).1 h
def mP (op mn:Int) (l:List Bool):Bool :=
 if op=0\/op=6\/op=7\/op=8\/op=11 then true
 else if op=2 then l.all id
 else if op=4 then (if mn=0 then true else l.any id)
 else if op=3\/op=10\/op=5\/op=9 then l.any id
 else false
mutual
def Re.gu:Re->Bool
 |.mk op _ kids mn _ _ _ _=>mP op mn (Re.GA kids)
def Re.GA:List Re->List Bool
 |[]=>[]
 |k::l=>k.gu::Re.GA l
end
theorem Re.Gu:∀l:List Re,Re.GA l=l.map Re.gu
 |[]=>by simp [Re.GA]
 |k::l=>by simp [Re.GA,Re.Gu l]
theorem Re.pw (re:Re):re.gu=mP re.op re.mn (re.kids.map Re.gu):=by
 cases re;simp [Re.gu,Re.Gu,Re.op,Re.mn,Re.kids]
def tn (re:Re):Prop:=au prog 56 [bP re,.rf 0 0 0 0] [ky 56] λv s=>v=bV re.gu/\s=[ky 56]
theorem Qx (re:Re) (ih:∀k∈re.kids,k.eN=true->tn k) (hs:re.eN=true) (o2:re.op=2):tn re:=by
 obtain⟨nV,hlen,A4⟩:=Re.fC hs;have hle:re.gu=(re.kids.map Re.gu).all id:=by rw[Re.pw,o2];rfl
 unfold tn;rw[hle];refine ar func56 rfl ntmps56 results56 rfl 1 13519594987718203 (by simp) (by simp) ?_;simp only[zW,simprocAttr,i64,bP,Re.ae re,iD,bD,o2,ky];refine aJ (λn e s=>∃i:Nat,n=re.kids.length-i/\i<=re.kids.length/\e 0=bP re/\e 1=.rf 0 0 0 0/\(∀x∈re.kids.take i,x.gu=true)/\e 22=i64 re.kids.length/\e 23=i64 i/\s=[ky 56])
  ⟨_,_,_,cU.refl,0,rfl,by omega,by simp [bP,Re.ae re,iD,bD,o2];rfl,rfl,by simp,rfl,rfl,rfl⟩ ?_
 rintro n e s ⟨i,rfl,hi,h0,h1,dg,vT,NJ,rfl⟩;rcases adV i re.kids.length with aH|iP
 ·obtain⟨k,hk⟩:∃k,re.kids[i]?=some k:=⟨_,adn aH⟩
  have hm:=adw hk;have Mu:=A4 k hm;simp only[zW,simprocAttr,h0,h1,vT,NJ,i64,aH,ky];refine ao mix [] [(0,[0],[]),(7,[0],[0])] (by rfl) ?_;simp only[zW,simprocAttr,h0,h1,vT,NJ,i64,aH,hk,bP,Re.ae re,iD,bD];refine su (ih k hm Mu) rfl rfl rfl rfl rfl rfl ?_;cases jl:k.gu with
  |true =>
   simp only[zW,simprocAttr,h0,h1,vT,NJ,i64,ky,bV,jl];refine⟨re.kids.length-(i+1),_,_,by omega,cU.refl,i+1,rfl,aH,?_,?_,?_,?_,?_,rfl⟩ <;> (try simp only[zU,Nat.reduceBEq,Nat.reduceShiftRight,Nat.reduceMod,Nat.reduceEqDiff,reduceIte])
   ·simpa [bP,Re.ae re,iD,bD]using h0
   ·exact h1
   ·intro x hx;rw[cy hk]at hx;rcases List.mem_append.1 hx with hx|hx
    ·exact dg x hx
    ·rw[List.mem_singleton.1 hx];exact jl
   ·exact vT
   ·rw[bM _ (by omega)];rfl
  |false =>
   simp only[zW,simprocAttr,h0,h1,vT,NJ,i64,ky,bV,jl];have:(re.kids.map Re.gu).all id=false:=by rw[List.all_eq_false];exact⟨false,List.mem_map.2 ⟨k,hm,jl⟩,by simp⟩
   rw[this];all_goals first|exact⟨rfl,rfl⟩|exact⟨rfl,trivial⟩|rfl|trivial|(rw[aq];rfl)
 ·have fy:i=re.kids.length:=by omega
  subst fy;rw[adZ]at dg;have:(re.kids.map Re.gu).all id=true:=by rw[adE];intro x hx;obtain⟨y,hy,rfl⟩:=List.mem_map.1 hx;exact dg y hy
  rw[this];simp only[zW,simprocAttr,h0,h1,vT,NJ,i64,ky,Nat.lt_irrefl,bV];all_goals first|exact⟨rfl,rfl⟩|exact⟨rfl,trivial⟩|rfl|trivial|(rw[aq];rfl)
theorem Qd (re:Re) (ih:∀k∈re.kids,k.eN=true->tn k) (hs:re.eN=true) (o:(re.op=4/\¬re.mn=0)\/re.op=3\/re.op=10\/re.op=5\/re.op=9):tn re:=by
 obtain⟨nV,hlen,A4⟩:=Re.fC hs;have hle:re.gu=(re.kids.map Re.gu).any id:=by
  rw[Re.pw];rcases o with ⟨o,om⟩|o|o|o|o <;> rw[o]
  ·simp [mP,om]
  all_goals rfl
 unfold tn;rw[hle];obtain⟨o2,om⟩:(re.op=4\/re.op=3\/re.op=10\/re.op=5\/re.op=9)/\(re.op=4->¬re.mn=0):=by rcases o with ⟨o,om⟩|o|o|o|o <;> simp [o] <;> exact om
 rcases o2 with o2|o2|o2|o2|o2;all_goals
  refine ar func56 rfl ntmps56 results56 rfl 1 13519594987718203 (by simp) (by simp) ?_;simp only[zW,simprocAttr,i64,bP,Re.ae re,iD,bD,o2,om,ky];refine aJ (λn e s=>∃i:Nat,n=re.kids.length-i/\i<=re.kids.length/\e 0=bP re/\e 1=.rf 0 0 0 0/\(∀x∈re.kids.take i,x.gu=false)/\e 52=i64 re.kids.length/\e 53=i64 i/\s=[ky 56])
   ⟨_,_,_,cU.refl,0,rfl,by omega,by simp [bP,Re.ae re,iD,bD,o2];rfl,rfl,by simp,rfl,rfl,rfl⟩ ?_
  rintro n e s ⟨i,rfl,hi,h0,h1,dg,vT,NJ,rfl⟩;rcases adV i re.kids.length with aH|iP
  ·obtain⟨k,hk⟩:∃k,re.kids[i]?=some k:=⟨_,adn aH⟩
   have hm:=adw hk;have Mu:=A4 k hm;simp only[zW,simprocAttr,h0,h1,vT,NJ,i64,aH,ky];refine ao mix [] [(0,[0],[]),(7,[0],[0])] (by rfl) ?_;simp only[zW,simprocAttr,h0,h1,vT,NJ,i64,aH,hk,bP,Re.ae re,iD,bD];refine su (ih k hm Mu) rfl rfl rfl rfl rfl rfl ?_;cases jl:k.gu with
   |false =>
    simp only[zW,simprocAttr,h0,h1,vT,NJ,i64,ky,bV,jl];refine⟨re.kids.length-(i+1),_,_,by omega,cU.refl,i+1,rfl,aH,?_,?_,?_,?_,?_,rfl⟩ <;> (try simp only[zU,Nat.reduceBEq,Nat.reduceShiftRight,Nat.reduceMod,Nat.reduceEqDiff,reduceIte])
    ·simpa [bP,Re.ae re,iD,bD,o2]using h0
    ·exact h1
    ·intro x hx;rw[cy hk]at hx;rcases List.mem_append.1 hx with hx|hx
     ·exact dg x hx
     ·rw[List.mem_singleton.1 hx];exact jl
    ·exact vT
    ·rw[bM _ (by omega)];rfl
   |true =>
    simp only[zW,simprocAttr,h0,h1,vT,NJ,i64,ky,bV,jl];have:(re.kids.map Re.gu).any id=true:=by rw[List.any_eq_true];exact⟨true,List.mem_map.2 ⟨k,hm,jl⟩,by simp⟩
    rw[this];all_goals first|exact⟨rfl,rfl⟩|exact⟨rfl,trivial⟩|rfl|trivial|(rw[aq];rfl)
  ·have fy:i=re.kids.length:=by omega
   subst fy;rw[adZ]at dg;have:(re.kids.map Re.gu).any id=false:=by rw[List.any_eq_false];intro x hx;obtain⟨y,hy,rfl⟩:=List.mem_map.1 hx;simp [dg y hy]
   rw[this];simp only[zW,simprocAttr,h0,h1,vT,NJ,i64,ky,Nat.lt_irrefl,bV];all_goals first|exact⟨rfl,rfl⟩|exact⟨rfl,trivial⟩|rfl|trivial|(rw[aq];rfl)
theorem OH (re:Re) (o1:¬re.op=2) (o2:¬re.op=3) (o3:¬re.op=10) (o4:re.op=4->re.mn=0) (o5:¬re.op=5) (o6:¬re.op=9):tn re:=by
 unfold tn;by_cases p4:re.op=4
 ·have hle:re.gu=true:=by rw[Re.pw,p4,o4 p4];rfl
  rw[hle];have pm:=o4 p4;refine ar func56 rfl ntmps56 results56 rfl 1 13519594987718203 (by simp) (by simp) ?_;simp only[zW,simprocAttr,i64,bP,Re.ae re,iD,bD,p4,pm,ky,bV];all_goals first|exact⟨rfl,rfl⟩|exact⟨rfl,trivial⟩|rfl|trivial|(rw[aq];rfl)
 by_cases p:re.op=0\/re.op=6\/re.op=7\/re.op=8\/re.op=11
 ·have hle:re.gu=true:=by rw[Re.pw];simp [mP,p]
  rw[hle];rcases p with p|p|p|p|p;all_goals
   refine ar func56 rfl ntmps56 results56 rfl 1 13519594987718203 (by simp) (by simp) ?_;simp only[zW,simprocAttr,i64,bP,Re.ae re,iD,bD,p,ky,bV];all_goals first|exact⟨rfl,rfl⟩|exact⟨rfl,trivial⟩|rfl|trivial|(rw[aq];rfl)
 have hle:re.gu=false:=by rw[Re.pw];simp [mP,p,o1,o2,o3,p4,o5,o6]
 rw[hle];have p0:¬re.op=0:=λh=>p (.inl h);have p6:¬re.op=6:=λh=>p (.inr (.inl h));have p7:¬re.op=7:=λh=>p (.inr (.inr (.inl h)));have p8:¬re.op=8:=λh=>p (.inr (.inr (.inr (.inl h))));have VZ:¬re.op=11:=λh=>p (.inr (.inr (.inr (.inr h))));refine ar func56 rfl ntmps56 results56 rfl 1 13519594987718203 (by simp) (by simp) ?_;simp only[zW,simprocAttr,i64,bP,Re.ae re,iD,bD,o1,o2,o3,p4,o5,o6,p0,p6,p7,p8,VZ,ky,bV];all_goals first|exact⟨rfl,rfl⟩|exact⟨rfl,trivial⟩|rfl|trivial|(rw[aq];rfl)
theorem Q1 (re:Re) (hs:re.eN=true):tn re:=by
 revert hs;refine Re.ind (Q:=λre=>re.eN=true->tn re) (λre ih hs=>?_) re;by_cases o2:re.op=2
 ·exact Qx re ih hs o2
 by_cases o:(re.op=4/\¬re.mn=0)\/re.op=3\/re.op=10\/re.op=5\/re.op=9
 ·exact Qd re ih hs o
 ·exact OH re o2 (λh=>o (.inr (.inl h))) (λh=>o (.inr (.inr (.inl h)))) (λh=>by by_cases hm:re.mn=0;exact hm;exact absurd (.inl ⟨h,hm⟩) o) (λh=>o (.inr (.inr (.inr (.inl h))))) (λh=>o (.inr (.inr (.inr (.inr h)))))
theorem Ft (re:Re) (hs:re.eN=true):ba prog 35 [lQ re] (bV re.gu):=by refine ar func35 rfl ntmps35 results35 rfl 0 15 (by simp) (by simp) ?_;simp only[zW,simprocAttr,i64,aq re,iD,bD];refine aY [0] rfl ?_;refine vm (r':=bV re.gu) 1 (Q1 re hs) (by rw[bP,Re.ae];rfl) rfl rfl rfl rfl ?_;simp only[zW,simprocAttr,i64,bg,bT,bp,aX,aX.go,ky,bV];all_goals first|exact⟨rfl,rfl⟩|exact⟨rfl,trivial⟩|rfl|trivial|(rw[aq];rfl)
theorem lB (n ck:Nat) (s:List VL.Obj) (ds:List (List D)) (k:Nat) (hk:ds.length<=k):((ds.map λc=>c.map V.d).take k).mapM (λ(e:List V)=>e.mapM (cE n ck s))=some ds:=by rw[adT (by simpa using hk),sN]
theorem tz (l:List (Int×Int)) (hl:l.length<=1000000000):ba prog 42 [.d (.sl (l.map aN))] (.d (.sl (l.map aN))):=by
 refine ar func42 rfl ntmps42 results42 rfl 0 5 (by simp) (by simp) ?_;cases l with
 |nil =>
  simp only[zW,simprocAttr,];exact⟨⟨_,rfl⟩,by simp,by simp⟩
 |cons x l =>
  simp only[zW,simprocAttr,];have he:(List.map V.d (aN x)::List.map (λx=>List.map V.d x) (List.map aN l))=((x::l).map aN).map (λc=>c.map V.d):=rfl;simp only[adA]at hl;refine⟨⟨_,rfl⟩,?_,⟨by omega,by simp⟩,?_⟩
  ·rw[he];intro e hm;obtain⟨c,hc,rfl⟩:=List.mem_map.1 hm;obtain⟨y,_,rfl⟩:=List.mem_map.1 hc;rfl
  ·rw[he,lB 7 0 _ _ (0+(l.length+1)) (by simp),ap (by omega)];rfl
end Go.Proofs.Ytphfjhaffbfpfaa
namespace Go.Proofs.Ytphfjhaffbfpfaa
open Go.VL Go.Proofs.Try
def m5 (c:Int):VL.Obj:=⟨0,true,1,[[i64 c]]⟩
mutual
def Re.depth:Re->Int
 |.mk _ _ kids _ _ _ _ _=>Re.Am kids 0+1
def Re.Am:List Re->Int->Int
 |[],a=>a
 |k::l,a=>Re.Am l (max a k.depth)
end
variable{s:List VL.Obj}
def s6 (l:List Int):Int:=l.foldl max 0
theorem Re.BU:∀(l:List Re) (a:Int),Re.Am l a=(l.map Re.depth).foldl max a
 |[],a=>by simp [Re.Am]
 |k::l,a=>by simp [Re.Am,Re.BU l]
theorem Re.oN (re:Re):re.depth=s6 (re.kids.map Re.depth)+1:=by
 cases re;simp [Re.depth,Re.BU,Re.kids,s6]
theorem L3 (l:List Int) (k:Int):s6 (l++[k])=max (s6 l) k:=by simp [s6,List.foldl_append]
theorem mm {b:Int}:∀(l:List Int) (a:Int),a<=b->(∀x∈l,x<=b)->l.foldl max a<=b
 |[],a,h,_=>h
 |x::l,a,h,hl=>mm l (max a x) (by have:=hl x (by simp);omega) (λy hy=>hl y (by simp [hy]))
theorem mg:∀(l:List Int) (a:Int),a<=l.foldl max a
 |[],a=>ady _
 |x::l,a=>Int.le_trans (by omega) (mg l (max a x))
theorem Re.vO (re:Re):0<=re.depth/\re.depth<=re.size:=by
 refine Re.ind (Q:=λre=>0<=re.depth/\re.depth<=re.size) (λre ih=>?_) re;rw[Re.oN,Re.size_eq];have h1:=mg (re.kids.map Re.depth) 0;have h2:s6 (re.kids.map Re.depth)<=(Re.dT re.kids:Nat):=mm _ _ (by omega) (λx hx=>by
  obtain⟨k,hk,rfl⟩:=List.mem_map.1 hx;have:=Re.wO hk;have:=(ih k hk).2;omega)
 unfold s6 at *;omega
theorem E3 (re:Re) (hs:re.size<=1000000000):ba prog 86 [lQ re] (i64 re.depth):=by
 revert hs;refine Re.ind (Q:=λre=>re.size<=1000000000->ba prog 86 [lQ re] (i64 re.depth)) (λre ih hs=>?_) re;have hlen:=Re.ot re.kids;have gf:=Re.size_eq re;have hd:=Re.vO re;rw[Re.oN]at hd ⊢;refine ar func86 rfl ntmps86 results86 rfl 0 31 (by simp) (by simp) ?_;simp only[zW,simprocAttr,i64,aq re,iD,bD];refine aJ (λn e s=>∃i:Nat,n=re.kids.length-i/\i<=re.kids.length/\e 1=.rf 0 0 0 0/\e 3=i64 (s6 ((re.kids.take i).map Re.depth))/\e 4=i64 i/\s=[⟨0,true,8,[re.cells.map .d]⟩])
  ⟨_,_,_,cU.refl,0,rfl,by omega,rfl,rfl,rfl,by rw[Re.ae re];rfl⟩ ?_
 rintro n e s ⟨i,rfl,hi,h1,h3,h4,rfl⟩;rcases adV i re.kids.length with aH|iP
 ·obtain⟨k,hk⟩:∃k,re.kids[i]?=some k:=⟨_,adn aH⟩
  have hm:=adw hk;have Mu:=Re.dr hm;simp only[zW,simprocAttr,i64,Re.ae re,iD,bD,h1,h3,h4,aH,hk];refine az (ih k hm (by omega)) (by simp [ak,ak.go,aq,i64,bV,bP]) (by simp [ak,ak.go,aq,i64,bV,bP]) ?_;simp only[zW,simprocAttr,i64,Re.ae re,iD,bD,h1,h3,h4];refine⟨re.kids.length-(i+1),_,_,by omega,cU.refl,i+1,rfl,aH,?_,?_,?_,rfl⟩ <;> (try simp only[zU,Nat.reduceBEq,Nat.reduceShiftRight,Nat.reduceMod,Nat.reduceEqDiff,reduceIte])
  ·exact h1
  ·rw[cy hk,List.map_append,adG,adP,L3]
  ·rw[bM _ (by omega)];rfl
 ·have fy:i=re.kids.length:=by omega
  subst fy;rw[adZ]at h3;have w1:IntKind.i64.wrap (s6 (re.kids.map Re.depth)+1)=s6 (re.kids.map Re.depth)+1:=bM _ (by omega);simp only[zW,simprocAttr,i64,Re.ae re,iD,bD,h1,h3,h4,Nat.lt_irrefl,w1];all_goals first|exact⟨rfl,rfl⟩|exact⟨rfl,trivial⟩|rfl|trivial|(rw[aq];rfl)
theorem Ga {P:Program}{f:FuncId}{args:List V}{K1 K:V->List VL.Obj->Prop} (h:au P f args s K1)
  (hw:∀v s1,K1 v s1->∀σ w u,Inv σ s1 w->aG σ s1 w v u->∃σ2 s2 v2,aW σ s1 w σ2 s2 w/\Inv σ2 s2 w/\aG σ2 s2 w v2 u/\K v2 s2):au P f args s K:=by
 refine⟨h.1,λσ w vals hI hl hv=>(h.2 σ w vals hI hl hv).mono λe w' ⟨u,v,σ',s',h1,h2,h3,h4,h5⟩=>?_⟩;obtain⟨σ2,s2,v2,k1,k2,k3,k4⟩:=hw v s' h5 σ' w' u h3 h4;exact⟨u,v2,σ2,s2,h1,h2.trans k1,k2,k3,k4⟩
theorem tT {σ:Gh}{w:World} (hI:Inv σ s w) {o:VL.Obj}{pre post:List V} (k sz:Nat) (ho:s[k]?=some o) (oA:o.aI=[pre++.fu []::post]) (gf:pre.length+1+post.length=o.sz) :
  ∃σ',aW σ s w σ' (s.set k { o with aI:=[pre++.so s.length 0 0 0::post] }++[⟨0,true,sz,[]⟩]) w/\Inv σ' (s.set k { o with aI:=[pre++.so s.length 0 0 0::post] }++[⟨0,true,sz,[]⟩]) w:=by
 have hk:=(List.getElem?_eq_some_iff.1 ho).1;have hp:=lE (p:=none) (o':=⟨0,true,sz,[]⟩) (w':=w) hI rfl rfl rfl (adB _) (λ_ _=>rfl) (λ_ _ h'=>by cases h') (λ_=>.inl (.inl ⟨rfl,rfl⟩));have Vw:(s++[(⟨0,true,sz,[]⟩:VL.Obj)])[k]?=some o:=by rw[adM hk];exact ho
 have hr:=Pj hp.2 (els':=[pre++.so s.length 0 0 0::post]) Vw (by intro e he;rw[List.mem_singleton.1 he];simp;omega) (by rw[oA];rfl) (by
  intro es he;rw[oA]at he;have hm:(pre++.fu []::post)∈kI es:=by rw[<- he];exact List.mem_singleton.2 rfl
  unfold kI at hm;obtain⟨x,_,hx⟩:=List.mem_map.1 hm;have hf:V.fu []∈[V.d (.sc x.key),V.d (.sc x.val)]:=by rw[hx];simp
  simp at hf) (λi j x' hx=>by
  rw[oA];cases i with
  |succ i=>simp at hx
  |zero =>
   simp only[adU,Option.bind_some]at hx ⊢;by_cases hj:j=pre.length
   ·subst hj;rw[adN (adB _),Nat.sub_self]at hx ⊢;simp only[adU,adp]at hx ⊢;subst hx;refine⟨_,rfl,λu hu=>?_⟩;cases hu with|fu hx=>?_
    exact .so ⟨0,true,sz,[]⟩ (by simp) (adB _) rfl (λ_=>.inl ⟨cg _ _ _,⟨_,rfl⟩,rfl,rfl⟩)
   ·refine⟨x',?_,λu hu=>hu⟩;rcases adV j pre.length with aH|iP
    ·rw[adM aH]at hx ⊢;exact hx
    ·rw[adN iP]at hx ⊢;cases hm:j-pre.length with
     |zero=>omega
     |succ m=>rw[hm]at hx;simpa using hx)
 have cC:(s++[(⟨0,true,sz,[]⟩:VL.Obj)]).set k { o with aI:=[pre++.so s.length 0 0 0::post] }=s.set k { o with aI:=[pre++.so s.length 0 0 0::post] }++[⟨0,true,sz,[]⟩]:=by rw[List.set_append_left _ _ hk]
 rw[cC]at hr;exact⟨_,hp.1.trans hr.1,hr.2⟩
end Go.Proofs.Ytphfjhaffbfpfaa
