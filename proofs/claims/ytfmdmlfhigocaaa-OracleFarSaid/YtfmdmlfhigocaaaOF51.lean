/- A part of the proof (G55 E1). -/
import Derived.Test.YtfmdmlfhigocaaaOF22
import Derived.Test.YtfmdmlfhigocaaaOF50
set_option linter.unusedSimpArgs false
set_option linter.unusedVariables false
set_option maxRecDepth 100000
set_option maxHeartbeats 80000000
namespace Go.Proofs.Ytfmdmlfhigocaaa
open Go.VL Go.Proofs.Try
inductive ETask where
 |run (g:Goal) (i:Int) (c:aE)
 |rep (re:Re) (k:Int) (nx:Goal) (i:Int) (c:aE)
 |node (re:Re) (nx:Goal) (i:Int) (c:aE)
 |body (re:Re) (nx:Goal) (i:Int) (c:aE)
 |alt (l:List Re) (nx:Goal) (i:Int) (c:aE)
 |behind (re kid:Re) (nx:Goal) (i:Int) (c:aE) (j:Nat)
def bq.sub (st:bq):bq:=⟨st.steps,false,[],[]⟩
def bq.GX (st x:bq):bq:={ st with steps:=x.steps,empty:=x.empty }
def H4 (i:Int):Goal:=.mk 4 (.mk 0 [] [] 0 0 0 0 false) 0 i .nil
inductive dZ (t:List Int) (F:Int):Int->ETask->bq->Bool->bq->Prop where
 |found {most:Int}{i:Int}{c:aE}{st:bq} (h0:0<=i) (h1:i<=t.length) (hl:st.ai.length=st.ends.length) (zw:st.ends.length<2000000000000):dZ t F most (.run .nil i c) st (decide (0<=most)&&decide (most<=(st.ends.length:Int)+1)) { st with ends:=st.ends++[i],ai:=st.ai++[c] }
 |tree {most kind k f i:Int}{re:Re}{nx:Goal}{c:aE}{st st':bq}{b:Bool} (z0:kind≠1) (F8:kind≠2) (BZ:kind≠3) (W2:kind≠4) (h0:0<=i) (h1:i<=t.length) (h:dZ t F most (.node re nx i c) st b st'):dZ t F most (.run (.mk kind re k f nx) i c) st b st'
 |Xa {most k f i:Int}{re:Re}{nx:Goal}{c:aE}{st st':bq}{b:Bool} (h0:0<=i) (h1:i<=t.length) (h:dZ t F most (.rep re k nx i c) st b st'):dZ t F most (.run (.mk 1 re k f nx) i c) st b st'
 |stay {most k f i:Int}{re:Re}{nx:Goal}{c:aE}{st:bq} (h0:0<=i) (h1:i<=t.length) (hk:re.mn<=k) (hi:i=f):dZ t F most (.run (.mk 2 re k f nx) i c) st false st
 |iter {most k f i:Int}{re:Re}{nx:Goal}{c:aE}{st st':bq}{b:Bool} (h0:0<=i) (h1:i<=t.length) (hk:¬(re.mn<=k/\i=f)) (nT:0<=k) (z0:k<=10000000000000) (h:dZ t F most (.run (.mk 1 re (k+1) 0 nx) i c) st b st'):dZ t F most (.run (.mk 2 re k f nx) i c) st b st'
 |save {most k f i:Int}{re:Re}{nx:Goal}{c:aE}{st st':bq}{b:Bool} (h0:0<=i) (h1:i<=t.length) (h:dZ t F most (.run nx i (nM c re.n f i)) st b st'):dZ t F most (.run (.mk 3 re k f nx) i c) st b st'
 |here {most k f i:Int}{re:Re}{nx:Goal}{c:aE}{st st':bq}{b:Bool} (h0:0<=i) (h1:i<=t.length) (hi:i=f) (h:dZ t F most (.run nx i c) st b st'):dZ t F most (.run (.mk 4 re k f nx) i c) st b st'
 |gone {most k f i:Int}{re:Re}{nx:Goal}{c:aE}{st:bq} (h0:0<=i) (h1:i<=t.length) (hi:i≠f):dZ t F most (.run (.mk 4 re k f nx) i c) st false st
 |S8 {most k i:Int}{re:Re}{nx:Goal}{c:aE}{st x:bq}{b:Bool} (hm:re.mode=2) (h:dZ t F 1 (.run (.mk 1 (re.eo 0) 0 0 .nil) i c) st.sub b x) (hx:x.empty=true):dZ t F most (.rep re k nx i c) st true (st.GX x)
 |Vd {most k i:Int}{re:Re}{nx:Goal}{c:aE}{st x:bq}{b:Bool} (hm:re.mode=2) (h:dZ t F 1 (.run (.mk 1 (re.eo 0) 0 0 .nil) i c) st.sub b x) (hx:x.empty=false) (he:x.ends=[]):dZ t F most (.rep re k nx i c) st false (st.GX x)
 |TW {most k i e:Int}{re:Re}{nx:Goal}{c d:aE}{le:List Int}{ld:List aE}{st x st':bq}{b b':Bool} (hm:re.mode=2) (h:dZ t F 1 (.run (.mk 1 (re.eo 0) 0 0 .nil) i c) st.sub b x) (hx:x.empty=false) (he:x.ends=e::le) (hd:x.ai=d::ld) (h2:dZ t F most (.run nx e d) (st.GX x) b' st'):dZ t F most (.rep re k nx i c) st b' st'
 |U0 {most k i:Int}{re:Re}{nx:Goal}{c:aE}{st:bq} (hm:re.mode≠2) (hs:0<=st.steps) (he:(st.step F).empty=true):dZ t F most (.rep re k nx i c) st true (st.step F)
 |UZ {most k i:Int}{re kid:Re}{l:List Re}{nx:Goal}{c:aE}{st st':bq}{b:Bool} (hm:re.mode≠2) (hs:0<=st.steps) (he:(st.step F).empty=false) (ew:re.kids=kid::l) (hk:k<re.mn) (h:dZ t F most (.run (.mk 0 kid 0 0 (.mk 2 re k i nx)) i c) (st.step F) b st'):dZ t F most (.rep re k nx i c) st b st'
 |T3 {most k i:Int}{re kid:Re}{l:List Re}{nx:Goal}{c:aE}{st st':bq}{b:Bool} (hm:re.mode≠2) (hs:0<=st.steps) (he:(st.step F).empty=false) (ew:re.kids=kid::l) (hk:¬k<re.mn) (hx:¬(re.mx=-1\/k<re.mx)) (h:dZ t F most (.run nx i c) (st.step F) b st'):dZ t F most (.rep re k nx i c) st b st'
 |Xh {most k i:Int}{re kid:Re}{l:List Re}{nx:Goal}{c:aE}{st st':bq} (hm:re.mode=1) (hs:0<=st.steps) (he:(st.step F).empty=false) (ew:re.kids=kid::l) (hk:¬k<re.mn) (hx:re.mx=-1\/k<re.mx) (h:dZ t F most (.run nx i c) (st.step F) true st'):dZ t F most (.rep re k nx i c) st true st'
 |Ww {most k i:Int}{re kid:Re}{l:List Re}{nx:Goal}{c:aE}{st s2 st':bq}{b:Bool} (hm:re.mode=1) (hs:0<=st.steps) (he:(st.step F).empty=false) (ew:re.kids=kid::l) (hk:¬k<re.mn) (hx:re.mx=-1\/k<re.mx) (h:dZ t F most (.run nx i c) (st.step F) false s2)
   (h2:dZ t F most (.run (.mk 0 kid 0 0 (.mk 2 re k i nx)) i c) s2 b st'):dZ t F most (.rep re k nx i c) st b st'
 |Wl {most k i:Int}{re kid:Re}{l:List Re}{nx:Goal}{c:aE}{st st':bq} (hm:re.mode≠2) (MO:re.mode≠1) (hs:0<=st.steps) (he:(st.step F).empty=false) (ew:re.kids=kid::l) (hk:¬k<re.mn) (hx:re.mx=-1\/k<re.mx) (h:dZ t F most (.run (.mk 0 kid 0 0 (.mk 2 re k i nx)) i c) (st.step F) true st'):dZ t F most (.rep re k nx i c) st true st'
 |W6 {most k i:Int}{re kid:Re}{l:List Re}{nx:Goal}{c:aE}{st s2 st':bq}{b:Bool} (hm:re.mode≠2) (MO:re.mode≠1) (hs:0<=st.steps) (he:(st.step F).empty=false) (ew:re.kids=kid::l) (hk:¬k<re.mn) (hx:re.mx=-1\/k<re.mx) (h:dZ t F most (.run (.mk 0 kid 0 0 (.mk 2 re k i nx)) i c) (st.step F) false s2)
   (h2:dZ t F most (.run nx i c) s2 b st'):dZ t F most (.rep re k nx i c) st b st'
 |Tz {most i:Int}{re:Re}{nx:Goal}{c:aE}{st st':bq}{b:Bool} (ho:re.op=4) (h0:0<=i) (h1:i<=t.length) (h:dZ t F most (.rep re 0 nx i c) st b st'):dZ t F most (.node re nx i c) st b st'
 |TS {most i:Int}{re:Re}{nx:Goal}{c:aE}{st:bq} (ho:re.op≠4) (hs:0<=st.steps) (he:(st.step F).empty=true):dZ t F most (.node re nx i c) st true (st.step F)
 |node {most i:Int}{re:Re}{nx:Goal}{c:aE}{st st':bq}{b:Bool} (ho:re.op≠4) (hs:0<=st.steps) (he:(st.step F).empty=false) (h:dZ t F most (.body re nx i c) (st.step F) b st'):dZ t F most (.node re nx i c) st b st'
 |empty {most i:Int}{re:Re}{nx:Goal}{c:aE}{st st':bq}{b:Bool} (ho:re.op ∉ ([1,2,3,5,6,7,8,9,10,11]:List Int)) (h:dZ t F most (.run nx i c) st b st'):dZ t F most (.body re nx i c) st b st'
 |UG {most i:Int}{re:Re}{nx:Goal}{c:aE}{st st':bq}{b:Bool} (ho:re.op=1) (hi:i<t.length) (hs:Ba re.set (kW t i)=true) (h:dZ t F most (.run nx (i+1) c) st b st'):dZ t F most (.body re nx i c) st b st'
 |Wn {most i:Int}{re:Re}{nx:Goal}{c:aE}{st:bq} (ho:re.op=1) (hn:¬(i<t.length/\Ba re.set (kW t i)=true)):dZ t F most (.body re nx i c) st false st
 |cat {most i:Int}{re:Re}{nx:Goal}{c:aE}{st st':bq}{b:Bool} (ho:re.op=2) (h:dZ t F most (.run (ov re.kids nx) i c) st b st'):dZ t F most (.body re nx i c) st b st'
 |alt {most i:Int}{re:Re}{nx:Goal}{c:aE}{st st':bq}{b:Bool} (ho:re.op=3) (h:dZ t F most (.alt re.kids nx i c) st b st'):dZ t F most (.body re nx i c) st b st'
 |Vj {most i:Int}{nx:Goal}{c:aE}{st:bq}:dZ t F most (.alt [] nx i c) st false st
 |Xo {most i:Int}{kid:Re}{l:List Re}{nx:Goal}{c:aE}{st st':bq} (h:dZ t F most (.run (.mk 0 kid 0 0 nx) i c) st true st'):dZ t F most (.alt (kid::l) nx i c) st true st'
 |PA {most i:Int}{kid:Re}{l:List Re}{nx:Goal}{c:aE}{st s2 st':bq}{b:Bool} (h:dZ t F most (.run (.mk 0 kid 0 0 nx) i c) st false s2) (h2:dZ t F most (.alt l nx i c) s2 b st'):dZ t F most (.alt (kid::l) nx i c) st b st'
 |cap {most i:Int}{re kid:Re}{l:List Re}{nx:Goal}{c:aE}{st st':bq}{b:Bool} (ho:re.op=5) (ew:re.kids=kid::l) (h:dZ t F most (.run (.mk 0 kid 0 0 (.mk 3 re 0 i nx)) i c) st b st'):dZ t F most (.body re nx i c) st b st'
 |TU {most i:Int}{re:Re}{nx:Goal}{c:aE}{st:bq} (ho:re.op=6) (hx:(ck c re.n).1<0):dZ t F most (.body re nx i c) st false st
 |Tg {most i:Int}{re:Re}{nx:Goal}{c:aE}{st:bq} (ho:re.op=6) (hx:¬(ck c re.n).1<0) (iF:¬(ck c re.n).2<(ck c re.n).1) (h2:(ck c re.n).2<=t.length) (hl:t.length<i+(ck c re.n).2-(ck c re.n).1):dZ t F most (.body re nx i c) st false st
 |UK {most i:Int}{re:Re}{nx:Goal}{c:aE}{st st':bq}{b:Bool} (ho:re.op=6) (hx:¬(ck c re.n).1<0) (iF:¬(ck c re.n).2<(ck c re.n).1) (h2:(ck c re.n).2<=t.length) (hl:¬t.length<i+(ck c re.n).2-(ck c re.n).1) (hs:oW t (ck c re.n).1 i ((ck c re.n).2-(ck c re.n).1).toNat=true)
   (h:dZ t F most (.run nx (i+(ck c re.n).2-(ck c re.n).1) c) st b st'):dZ t F most (.body re nx i c) st b st'
 |Xe {most i:Int}{re:Re}{nx:Goal}{c:aE}{st:bq} (ho:re.op=6) (hx:¬(ck c re.n).1<0) (iF:¬(ck c re.n).2<(ck c re.n).1) (h2:(ck c re.n).2<=t.length) (hl:¬t.length<i+(ck c re.n).2-(ck c re.n).1) (hs:oW t (ck c re.n).1 i ((ck c re.n).2-(ck c re.n).1).toNat=false):dZ t F most (.body re nx i c) st false st
 |Rv {most i:Int}{re kid:Re}{l:List Re}{nx:Goal}{c:aE}{st x:bq}{b:Bool} (ho:re.op=7) (ew:re.kids=kid::l) (h:dZ t F 1 (.run (.mk 0 kid 0 0 .nil) i c) st.sub b x) (hx:x.empty=true):dZ t F most (.body re nx i c) st true (st.GX x)
 |S7 {most i:Int}{re kid:Re}{l:List Re}{nx:Goal}{c:aE}{st x:bq}{b:Bool} (ho:re.op=7) (ew:re.kids=kid::l) (h:dZ t F 1 (.run (.mk 0 kid 0 0 .nil) i c) st.sub b x) (hx:x.empty=false) (he:x.ends=[]) (hn:re.neg=false):dZ t F most (.body re nx i c) st false (st.GX x)
 |Pn {most i:Int}{re kid:Re}{l:List Re}{nx:Goal}{c:aE}{st x st':bq}{b b':Bool} (ho:re.op=7) (ew:re.kids=kid::l) (h:dZ t F 1 (.run (.mk 0 kid 0 0 .nil) i c) st.sub b x) (hx:x.empty=false) (he:x.ends=[]) (hn:re.neg=true) (h2:dZ t F most (.run nx i c) (st.GX x) b' st'):dZ t F most (.body re nx i c) st b' st'
 |RW {most i e:Int}{re kid:Re}{l:List Re}{nx:Goal}{c d:aE}{le:List Int}{ld:List aE}{st x st':bq}{b b':Bool} (ho:re.op=7) (ew:re.kids=kid::l) (h:dZ t F 1 (.run (.mk 0 kid 0 0 .nil) i c) st.sub b x) (hx:x.empty=false) (he:x.ends=e::le) (hd:x.ai=d::ld) (hn:re.neg=false) (h2:dZ t F most (.run nx i d) (st.GX x) b' st'):dZ t F most (.body re nx i c) st b' st'
 |N7 {most i e:Int}{re kid:Re}{l:List Re}{nx:Goal}{c d:aE}{le:List Int}{ld:List aE}{st x:bq}{b:Bool} (ho:re.op=7) (ew:re.kids=kid::l) (h:dZ t F 1 (.run (.mk 0 kid 0 0 .nil) i c) st.sub b x) (hx:x.empty=false) (he:x.ends=e::le) (hd:x.ai=d::ld) (hn:re.neg=true):dZ t F most (.body re nx i c) st false (st.GX x)
 |behind {most i:Int}{re kid:Re}{l:List Re}{nx:Goal}{c:aE}{st st':bq}{b:Bool} (ho:re.op=8) (ew:re.kids=kid::l) (he:st.empty=false) (h:dZ t F most (.behind re kid nx i c (i.toNat+1)) st b st'):dZ t F most (.body re nx i c) st b st'
 |Yf {most i:Int}{re kid:Re}{nx:Goal}{c:aE}{st:bq} (hn:re.neg=false):dZ t F most (.behind re kid nx i c 0) st false st
 |Tc {most i:Int}{re kid:Re}{nx:Goal}{c:aE}{st st':bq}{b:Bool} (hn:re.neg=true) (h:dZ t F most (.run nx i c) st b st'):dZ t F most (.behind re kid nx i c 0) st b st'
 |WH {most i:Int}{j:Nat}{re kid:Re}{nx:Goal}{c:aE}{st x:bq}{b:Bool} (h:dZ t F 1 (.run (.mk 0 kid 0 0 (H4 i)) j c) st.sub b x) (hx:x.empty=true):dZ t F most (.behind re kid nx i c (j+1)) st true (st.GX x)
 |WS {most i e:Int}{j:Nat}{re kid:Re}{nx:Goal}{c d:aE}{le:List Int}{ld:List aE}{st x st':bq}{b b':Bool} (h:dZ t F 1 (.run (.mk 0 kid 0 0 (H4 i)) j c) st.sub b x) (hx:x.empty=false) (he:x.ends=e::le) (hd:x.ai=d::ld) (hn:re.neg=false) (h2:dZ t F most (.run nx i d) (st.GX x) b' st'):dZ t F most (.behind re kid nx i c (j+1)) st b' st'
 |RG {most i e:Int}{j:Nat}{re kid:Re}{nx:Goal}{c d:aE}{le:List Int}{ld:List aE}{st x:bq}{b:Bool} (h:dZ t F 1 (.run (.mk 0 kid 0 0 (H4 i)) j c) st.sub b x) (hx:x.empty=false) (he:x.ends=e::le) (hd:x.ai=d::ld) (hn:re.neg=true):dZ t F most (.behind re kid nx i c (j+1)) st false (st.GX x)
 |VI {most i:Int}{j:Nat}{re kid:Re}{nx:Goal}{c:aE}{st x st':bq}{b b':Bool} (h:dZ t F 1 (.run (.mk 0 kid 0 0 (H4 i)) j c) st.sub b x) (hx:x.empty=false) (he:x.ends=[]) (h2:dZ t F most (.behind re kid nx i c j) (st.GX x) b' st'):dZ t F most (.behind re kid nx i c (j+1)) st b' st'
 |S5 {most i:Int}{re kid:Re}{l:List Re}{nx:Goal}{c:aE}{st x:bq}{b:Bool} (ho:re.op=9) (ew:re.kids=kid::l) (h:dZ t F 1 (.run (.mk 0 kid 0 0 .nil) i c) st.sub b x) (hx:x.empty=true):dZ t F most (.body re nx i c) st true (st.GX x)
 |VF {most i:Int}{re kid:Re}{l:List Re}{nx:Goal}{c:aE}{st x:bq}{b:Bool} (ho:re.op=9) (ew:re.kids=kid::l) (h:dZ t F 1 (.run (.mk 0 kid 0 0 .nil) i c) st.sub b x) (hx:x.empty=false) (he:x.ends=[]):dZ t F most (.body re nx i c) st false (st.GX x)
 |TJ {most i e:Int}{re kid:Re}{l:List Re}{nx:Goal}{c d:aE}{le:List Int}{ld:List aE}{st x st':bq}{b b':Bool} (ho:re.op=9) (ew:re.kids=kid::l) (h:dZ t F 1 (.run (.mk 0 kid 0 0 .nil) i c) st.sub b x) (hx:x.empty=false) (he:x.ends=e::le) (hd:x.ai=d::ld) (h2:dZ t F most (.run nx e d) (st.GX x) b' st'):dZ t F most (.body re nx i c) st b' st'
 |cond {most i:Int}{re yes no:Re}{l:List Re}{nx:Goal}{c:aE}{st st':bq}{b:Bool} (ho:re.op=10) (ew:re.kids=yes::no::l) (h:dZ t F most (.run (.mk 0 (if 0<=(ck c re.n).1 then yes else no) 0 0 nx) i c) st b st'):dZ t F most (.body re nx i c) st b st'
 |QT {most i:Int}{re:Re}{nx:Goal}{c:aE}{st st':bq}{b:Bool} (ho:re.op=11) (hh:bP re.n t i=true) (h:dZ t F most (.run nx i c) st b st'):dZ t F most (.body re nx i c) st b st'
 |Sf {most i:Int}{re:Re}{nx:Goal}{c:aE}{st:bq} (ho:re.op=11) (hh:bP re.n t i=false):dZ t F most (.body re nx i c) st false st
def Task.e:Task->ETask
 |.run g i c=>.run g i c
 |.rep (.mk _ re k _ nx) i c=>.rep re k nx i c
 |.rep .nil i c=>.alt [] .nil i c
 |.node (.mk _ re _ _ nx) i c=>.node re nx i c
 |.node .nil i c=>.alt [] .nil i c
end Go.Proofs.Ytfmdmlfhigocaaa
