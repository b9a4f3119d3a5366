/- A part of the proof (H1). -/
import Derived.Test.YtllagoeijcjpiaaBD7
set_option linter.unusedSimpArgs false
set_option linter.unusedVariables false
set_option maxRecDepth 100000
set_option maxHeartbeats 80000000
namespace Go.Proofs.Ytllagoeijcjpiaa
open Go.VL
def aO (l:List Re) (o:Int):Int:=if l=[] then o else o+1
def aD (l:List Re) (o d:Int):Int:=if l=[] then d else max d (o+1)
inductive eM (t:List Int) (F:Int):Int→ETask→aU→Bool→aU→Int→Int→Int→Prop where
 |found {o w:Int}{ah:Int}{i:Int}{c:aq}{st:aU} (h0:0≤i) (h1:i≤t.length) (hl:st.ai.length=st.ends.length) (wq:st.ends.length<2000000000000):eM t F ah (.run .nil i c) st (decide (0≤ah)&&decide (ah≤(st.ends.length:Int)+1)) { st with ends:=st.ends++[i],ai:=st.ai++[c] } o w w
 |tree {o w w':Int}{ah kind k f i:Int}{re:Re}{nx:Goal}{c:aq}{st st':aU}{b:Bool} (eO:kind≠1) (yw:kind≠2) (AL:kind≠3) (L3:kind≠4) (h0:0≤i) (h1:i≤t.length) (h:eM t F ah (.node re nx i c) st b st' o w w'):eM t F ah (.run (.mk kind re k f nx) i c) st b st' o w w'
 |Aa {o w w':Int}{ah k f i:Int}{re:Re}{nx:Goal}{c:aq}{st st':aU}{b:Bool} (h0:0≤i) (h1:i≤t.length) (h:eM t F ah (.rep re k nx i c) st b st' o w w'):eM t F ah (.run (.mk 1 re k f nx) i c) st b st' o w w'
 |stay {o w:Int}{ah k f i:Int}{re:Re}{nx:Goal}{c:aq}{st:aU} (h0:0≤i) (h1:i≤t.length) (hk:re.mn≤k) (hi:i=f):eM t F ah (.run (.mk 2 re k f nx) i c) st false st o w w
 |iter {o w w':Int}{ah k f i:Int}{re:Re}{nx:Goal}{c:aq}{st st':aU}{b:Bool} (h0:0≤i) (h1:i≤t.length) (hk:¬(re.mn≤k∧i=f)) (dL:0≤k) (eO:k≤10000000000000) (h:eM t F ah (.run (.mk 1 re (k+1) 0 nx) i c) st b st' o w w'):eM t F ah (.run (.mk 2 re k f nx) i c) st b st' o w w'
 |save {o w w':Int}{ah k f i:Int}{re:Re}{nx:Goal}{c:aq}{st st':aU}{b:Bool} (h0:0≤i) (h1:i≤t.length) (h:eM t F ah (.run nx i (jf c re.n f i)) st b st' o w w'):eM t F ah (.run (.mk 3 re k f nx) i c) st b st' o w w'
 |here {o w w':Int}{ah k f i:Int}{re:Re}{nx:Goal}{c:aq}{st st':aU}{b:Bool} (h0:0≤i) (h1:i≤t.length) (hi:i=f) (h:eM t F ah (.run nx i c) st b st' o w w'):eM t F ah (.run (.mk 4 re k f nx) i c) st b st' o w w'
 |gone {o w:Int}{ah k f i:Int}{re:Re}{nx:Goal}{c:aq}{st:aU} (h0:0≤i) (h1:i≤t.length) (hi:i≠f):eM t F ah (.run (.mk 4 re k f nx) i c) st false st o w w
 |qc {o w w':Int}{ah k i:Int}{re:Re}{nx:Goal}{c:aq}{st x:aU}{b:Bool} (hm:re.mode=2) (h:eM t F 1 (.run (.mk 1 (re.bP 0) 0 0 .nil) i c) st.sub b x o w w') (hx:x.empty=true):eM t F ah (.rep re k nx i c) st true (st.ib x) o w w'
 |uz {o w w':Int}{ah k i:Int}{re:Re}{nx:Goal}{c:aq}{st x:aU}{b:Bool} (hm:re.mode=2) (h:eM t F 1 (.run (.mk 1 (re.bP 0) 0 0 .nil) i c) st.sub b x o w w') (hx:x.empty=false) (he:x.ends=[]):eM t F ah (.rep re k nx i c) st false (st.ib x) o w w'
 |qZ {o w w' w1:Int}{ah k i e:Int}{re:Re}{nx:Goal}{c d:aq}{le:List Int}{ld:List aq}{st x st':aU}{b b':Bool} (hm:re.mode=2) (h:eM t F 1 (.run (.mk 1 (re.bP 0) 0 0 .nil) i c) st.sub b x o w w1) (hx:x.empty=false) (he:x.ends=e::le) (hd:x.ai=d::ld) (h2:eM t F ah (.run nx e d) (st.ib x) b' st' o w1 w'):eM t F ah (.rep re k nx i c) st b' st' o w w'
 |uo {o w:Int}{ah k i:Int}{re:Re}{nx:Goal}{c:aq}{st:aU} (hm:re.mode≠2) (hs:0≤st.steps) (he:(st.step F).empty=true):eM t F ah (.rep re k nx i c) st true (st.step F) o w w
 |ug {o w w':Int}{ah k i:Int}{re kid:Re}{l:List Re}{nx:Goal}{c:aq}{st st':aU}{b:Bool} (hm:re.mode≠2) (hs:0≤st.steps) (he:(st.step F).empty=false) (bH:re.kids=kid::l) (hk:k<re.mn) (h:eM t F ah (.run (.mk 0 kid 0 0 (.mk 2 re k i nx)) i c) (st.step F) b st' o w w'):eM t F ah (.rep re k nx i c) st b st' o w w'
 |oV {o w w':Int}{ah k i:Int}{re kid:Re}{l:List Re}{nx:Goal}{c:aq}{st st':aU}{b:Bool} (hm:re.mode≠2) (hs:0≤st.steps) (he:(st.step F).empty=false) (bH:re.kids=kid::l) (hk:¬k<re.mn) (hx:¬(re.mx=-1∨k<re.mx)) (h:eM t F ah (.run nx i c) (st.step F) b st' o w w'):eM t F ah (.rep re k nx i c) st b st' o w w'
 |Ai {o w w':Int}{ah k i:Int}{re kid:Re}{l:List Re}{nx:Goal}{c:aq}{st st':aU} (hm:re.mode=1) (hs:0≤st.steps) (he:(st.step F).empty=false) (bH:re.kids=kid::l) (hk:¬k<re.mn) (hx:re.mx=-1∨k<re.mx) (h:eM t F ah (.run nx i c) (st.step F) true st' (o+1) (max w (o+1)) w'):eM t F ah (.rep re k nx i c) st true st' o w w'
 |zj {o w w' w1:Int}{ah k i:Int}{re kid:Re}{l:List Re}{nx:Goal}{c:aq}{st s2 st':aU}{b:Bool} (hm:re.mode=1) (hs:0≤st.steps) (he:(st.step F).empty=false) (bH:re.kids=kid::l) (hk:¬k<re.mn) (hx:re.mx=-1∨k<re.mx) (h:eM t F ah (.run nx i c) (st.step F) false s2 (o+1) (max w (o+1)) w1) (h2:eM t F ah (.run (.mk 0 kid 0 0 (.mk 2 re k i nx)) i c) s2 b st' o w1 w'):eM t F ah (.rep re k nx i c) st b st' o w w'
 |ze {o w w':Int}{ah k i:Int}{re kid:Re}{l:List Re}{nx:Goal}{c:aq}{st st':aU} (hm:re.mode≠2) (ly:re.mode≠1) (hs:0≤st.steps) (he:(st.step F).empty=false) (bH:re.kids=kid::l) (hk:¬k<re.mn) (hx:re.mx=-1∨k<re.mx) (h:eM t F ah (.run (.mk 0 kid 0 0 (.mk 2 re k i nx)) i c) (st.step F) true st' (o+1) (max w (o+1)) w'):eM t F ah (.rep re k nx i c) st true st' o w w'
 |z7 {o w w' w1:Int}{ah k i:Int}{re kid:Re}{l:List Re}{nx:Goal}{c:aq}{st s2 st':aU}{b:Bool} (hm:re.mode≠2) (ly:re.mode≠1) (hs:0≤st.steps) (he:(st.step F).empty=false) (bH:re.kids=kid::l) (hk:¬k<re.mn) (hx:re.mx=-1∨k<re.mx) (h:eM t F ah (.run (.mk 0 kid 0 0 (.mk 2 re k i nx)) i c) (st.step F) false s2 (o+1) (max w (o+1)) w1) (h2:eM t F ah (.run nx i c) s2 b st' o w1 w'):eM t F ah (.rep re k nx i c) st b st' o w w'
 |qJ {o w w':Int}{ah i:Int}{re:Re}{nx:Goal}{c:aq}{st st':aU}{b:Bool} (ho:re.op=4) (h0:0≤i) (h1:i≤t.length) (h:eM t F ah (.rep re 0 nx i c) st b st' o w w'):eM t F ah (.node re nx i c) st b st' o w w'
 |qW {o w:Int}{ah i:Int}{re:Re}{nx:Goal}{c:aq}{st:aU} (ho:re.op≠4) (hs:0≤st.steps) (he:(st.step F).empty=true):eM t F ah (.node re nx i c) st true (st.step F) o w w
 |node {o w w':Int}{ah i:Int}{re:Re}{nx:Goal}{c:aq}{st st':aU}{b:Bool} (ho:re.op≠4) (hs:0≤st.steps) (he:(st.step F).empty=false) (h:eM t F ah (.body re nx i c) (st.step F) b st' o w w'):eM t F ah (.node re nx i c) st b st' o w w'
 |empty {o w w':Int}{ah i:Int}{re:Re}{nx:Goal}{c:aq}{st st':aU}{b:Bool} (ho:re.op ∉ ([1,2,3,5,6,7,8,9,10,11]:List Int)) (h:eM t F ah (.run nx i c) st b st' o w w'):eM t F ah (.body re nx i c) st b st' o w w'
 |tY {o w w':Int}{ah i:Int}{re:Re}{nx:Goal}{c:aq}{st st':aU}{b:Bool} (ho:re.op=1) (hi:i<t.length) (hs:oQ re.set (eH t i)=true) (h:eM t F ah (.run nx (i+1) c) st b st' o w w'):eM t F ah (.body re nx i c) st b st' o w w'
 |zf {o w:Int}{ah i:Int}{re:Re}{nx:Goal}{c:aq}{st:aU} (ho:re.op=1) (hn:¬(i<t.length∧oQ re.set (eH t i)=true)):eM t F ah (.body re nx i c) st false st o w w
 |cat {o w w':Int}{ah i:Int}{re:Re}{nx:Goal}{c:aq}{st st':aU}{b:Bool} (ho:re.op=2) (h:eM t F ah (.run (gu re.kids nx) i c) st b st' o w w'):eM t F ah (.body re nx i c) st b st' o w w'
 |alt {o w w':Int}{ah i:Int}{re:Re}{nx:Goal}{c:aq}{st st':aU}{b:Bool} (ho:re.op=3) (h:eM t F ah (.alt re.kids nx i c) st b st' o w w'):eM t F ah (.body re nx i c) st b st' o w w'
 |uB {o w:Int}{ah i:Int}{nx:Goal}{c:aq}{st:aU}:eM t F ah (.alt [] nx i c) st false st o w w
 |GJ {o w w':Int}{ah i:Int}{kid:Re}{l:List Re}{nx:Goal}{c:aq}{st st':aU} (h:eM t F ah (.run (.mk 0 kid 0 0 nx) i c) st true st' (aO l o) (aD l o w) w'):eM t F ah (.alt (kid::l) nx i c) st true st' o w w'
 |AE {o w w' w1:Int}{ah i:Int}{kid:Re}{l:List Re}{nx:Goal}{c:aq}{st s2 st':aU}{b:Bool} (h:eM t F ah (.run (.mk 0 kid 0 0 nx) i c) st false s2 (aO l o) (aD l o w) w1) (h2:eM t F ah (.alt l nx i c) s2 b st' o w1 w'):eM t F ah (.alt (kid::l) nx i c) st b st' o w w'
 |cap {o w w':Int}{ah i:Int}{re kid:Re}{l:List Re}{nx:Goal}{c:aq}{st st':aU}{b:Bool} (ho:re.op=5) (bH:re.kids=kid::l) (h:eM t F ah (.run (.mk 0 kid 0 0 (.mk 3 re 0 i nx)) i c) st b st' o w w'):eM t F ah (.body re nx i c) st b st' o w w'
 |qX {o w:Int}{ah i:Int}{re:Re}{nx:Goal}{c:aq}{st:aU} (ho:re.op=6) (hx:(bo c re.n).1<0):eM t F ah (.body re nx i c) st false st o w w
 |qt {o w:Int}{ah i:Int}{re:Re}{nx:Goal}{c:aq}{st:aU} (ho:re.op=6) (hx:¬(bo c re.n).1<0) (bW:¬(bo c re.n).2<(bo c re.n).1) (h2:(bo c re.n).2≤t.length) (hl:t.length<i+(bo c re.n).2-(bo c re.n).1):eM t F ah (.body re nx i c) st false st o w w
 |ud {o w w':Int}{ah i:Int}{re:Re}{nx:Goal}{c:aq}{st st':aU}{b:Bool} (ho:re.op=6) (hx:¬(bo c re.n).1<0) (bW:¬(bo c re.n).2<(bo c re.n).1) (h2:(bo c re.n).2≤t.length) (hl:¬t.length<i+(bo c re.n).2-(bo c re.n).1) (hs:cO t (bo c re.n).1 i ((bo c re.n).2-(bo c re.n).1).toNat=true) (h:eM t F ah (.run nx (i+(bo c re.n).2-(bo c re.n).1) c) st b st' o w w'):eM t F ah (.body re nx i c) st b st' o w w'
 |Ae {o w:Int}{ah i:Int}{re:Re}{nx:Goal}{c:aq}{st:aU} (ho:re.op=6) (hx:¬(bo c re.n).1<0) (bW:¬(bo c re.n).2<(bo c re.n).1) (h2:(bo c re.n).2≤t.length) (hl:¬t.length<i+(bo c re.n).2-(bo c re.n).1) (hs:cO t (bo c re.n).1 i ((bo c re.n).2-(bo c re.n).1).toNat=false):eM t F ah (.body re nx i c) st false st o w w
 |ng {o w w':Int}{ah i:Int}{re kid:Re}{l:List Re}{nx:Goal}{c:aq}{st x:aU}{b:Bool} (ho:re.op=7) (bH:re.kids=kid::l) (h:eM t F 1 (.run (.mk 0 kid 0 0 .nil) i c) st.sub b x o w w') (hx:x.empty=true):eM t F ah (.body re nx i c) st true (st.ib x) o w w'
 |qa {o w w':Int}{ah i:Int}{re kid:Re}{l:List Re}{nx:Goal}{c:aq}{st x:aU}{b:Bool} (ho:re.op=7) (bH:re.kids=kid::l) (h:eM t F 1 (.run (.mk 0 kid 0 0 .nil) i c) st.sub b x o w w') (hx:x.empty=false) (he:x.ends=[]) (hn:re.neg=false):eM t F ah (.body re nx i c) st false (st.ib x) o w w'
 |jN {o w w' w1:Int}{ah i:Int}{re kid:Re}{l:List Re}{nx:Goal}{c:aq}{st x st':aU}{b b':Bool} (ho:re.op=7) (bH:re.kids=kid::l) (h:eM t F 1 (.run (.mk 0 kid 0 0 .nil) i c) st.sub b x o w w1) (hx:x.empty=false) (he:x.ends=[]) (hn:re.neg=true) (h2:eM t F ah (.run nx i c) (st.ib x) b' st' o w1 w'):eM t F ah (.body re nx i c) st b' st' o w w'
 |nt {o w w' w1:Int}{ah i e:Int}{re kid:Re}{l:List Re}{nx:Goal}{c d:aq}{le:List Int}{ld:List aq}{st x st':aU}{b b':Bool} (ho:re.op=7) (bH:re.kids=kid::l) (h:eM t F 1 (.run (.mk 0 kid 0 0 .nil) i c) st.sub b x o w w1) (hx:x.empty=false) (he:x.ends=e::le) (hd:x.ai=d::ld) (hn:re.neg=false) (h2:eM t F ah (.run nx i d) (st.ib x) b' st' o w1 w'):eM t F ah (.body re nx i c) st b' st' o w w'
 |iZ {o w w':Int}{ah i e:Int}{re kid:Re}{l:List Re}{nx:Goal}{c d:aq}{le:List Int}{ld:List aq}{st x:aU}{b:Bool} (ho:re.op=7) (bH:re.kids=kid::l) (h:eM t F 1 (.run (.mk 0 kid 0 0 .nil) i c) st.sub b x o w w') (hx:x.empty=false) (he:x.ends=e::le) (hd:x.ai=d::ld) (hn:re.neg=true):eM t F ah (.body re nx i c) st false (st.ib x) o w w'
 |behind {o w w':Int}{ah i:Int}{re kid:Re}{l:List Re}{nx:Goal}{c:aq}{st st':aU}{b:Bool} (ho:re.op=8) (bH:re.kids=kid::l) (he:st.empty=false) (h:eM t F ah (.behind re kid nx i c (i.toNat+1)) st b st' o w w'):eM t F ah (.body re nx i c) st b st' o w w'
 |Hv {o w:Int}{ah i:Int}{re kid:Re}{nx:Goal}{c:aq}{st:aU} (hn:re.neg=false):eM t F ah (.behind re kid nx i c 0) st false st o w w
 |qm {o w w':Int}{ah i:Int}{re kid:Re}{nx:Goal}{c:aq}{st st':aU}{b:Bool} (hn:re.neg=true) (h:eM t F ah (.run nx i c) st b st' o w w'):eM t F ah (.behind re kid nx i c 0) st b st' o w w'
 |zx {o w w':Int}{ah i:Int}{j:Nat}{re kid:Re}{nx:Goal}{c:aq}{st x:aU}{b:Bool} (h:eM t F 1 (.run (.mk 0 kid 0 0 (lT i)) j c) st.sub b x o w w') (hx:x.empty=true):eM t F ah (.behind re kid nx i c (j+1)) st true (st.ib x) o w w'
 |zF {o w w' w1:Int}{ah i e:Int}{j:Nat}{re kid:Re}{nx:Goal}{c d:aq}{le:List Int}{ld:List aq}{st x st':aU}{b b':Bool} (h:eM t F 1 (.run (.mk 0 kid 0 0 (lT i)) j c) st.sub b x o w w1) (hx:x.empty=false) (he:x.ends=e::le) (hd:x.ai=d::ld) (hn:re.neg=false) (h2:eM t F ah (.run nx i d) (st.ib x) b' st' o w1 w'):eM t F ah (.behind re kid nx i c (j+1)) st b' st' o w w'
 |nk {o w w':Int}{ah i e:Int}{j:Nat}{re kid:Re}{nx:Goal}{c d:aq}{le:List Int}{ld:List aq}{st x:aU}{b:Bool} (h:eM t F 1 (.run (.mk 0 kid 0 0 (lT i)) j c) st.sub b x o w w') (hx:x.empty=false) (he:x.ends=e::le) (hd:x.ai=d::ld) (hn:re.neg=true):eM t F ah (.behind re kid nx i c (j+1)) st false (st.ib x) o w w'
 |uP {o w w' w1:Int}{ah i:Int}{j:Nat}{re kid:Re}{nx:Goal}{c:aq}{st x st':aU}{b b':Bool} (h:eM t F 1 (.run (.mk 0 kid 0 0 (lT i)) j c) st.sub b x o w w1) (hx:x.empty=false) (he:x.ends=[]) (h2:eM t F ah (.behind re kid nx i c j) (st.ib x) b' st' o w1 w'):eM t F ah (.behind re kid nx i c (j+1)) st b' st' o w w'
 |pZ {o w w':Int}{ah i:Int}{re kid:Re}{l:List Re}{nx:Goal}{c:aq}{st x:aU}{b:Bool} (ho:re.op=9) (bH:re.kids=kid::l) (h:eM t F 1 (.run (.mk 0 kid 0 0 .nil) i c) st.sub b x o w w') (hx:x.empty=true):eM t F ah (.body re nx i c) st true (st.ib x) o w w'
 |uO {o w w':Int}{ah i:Int}{re kid:Re}{l:List Re}{nx:Goal}{c:aq}{st x:aU}{b:Bool} (ho:re.op=9) (bH:re.kids=kid::l) (h:eM t F 1 (.run (.mk 0 kid 0 0 .nil) i c) st.sub b x o w w') (hx:x.empty=false) (he:x.ends=[]):eM t F ah (.body re nx i c) st false (st.ib x) o w w'
 |qQ {o w w' w1:Int}{ah i e:Int}{re kid:Re}{l:List Re}{nx:Goal}{c d:aq}{le:List Int}{ld:List aq}{st x st':aU}{b b':Bool} (ho:re.op=9) (bH:re.kids=kid::l) (h:eM t F 1 (.run (.mk 0 kid 0 0 .nil) i c) st.sub b x o w w1) (hx:x.empty=false) (he:x.ends=e::le) (hd:x.ai=d::ld) (h2:eM t F ah (.run nx e d) (st.ib x) b' st' o w1 w'):eM t F ah (.body re nx i c) st b' st' o w w'
 |cond {o w w':Int}{ah i:Int}{re yes no:Re}{l:List Re}{nx:Goal}{c:aq}{st st':aU}{b:Bool} (ho:re.op=10) (bH:re.kids=yes::no::l) (h:eM t F ah (.run (.mk 0 (if 0≤(bo c re.n).1 then yes else no) 0 0 nx) i c) st b st' o w w'):eM t F ah (.body re nx i c) st b st' o w w'
 |lB {o w w':Int}{ah i:Int}{re:Re}{nx:Goal}{c:aq}{st st':aU}{b:Bool} (ho:re.op=11) (hh:bN re.n t i=true) (h:eM t F ah (.run nx i c) st b st' o w w'):eM t F ah (.body re nx i c) st b st' o w w'
 |ny {o w:Int}{ah i:Int}{re:Re}{nx:Goal}{c:aq}{st:aU} (ho:re.op=11) (hh:bN re.n t i=false):eM t F ah (.body re nx i c) st false st o w w
theorem eu.GG {t:List Int}{F ah:Int}{task:ETask}{st st':aU}{b:Bool} (h:eu t F ah task st b st'):∀o d:Int,∃d',eM t F ah task st b st' o d d':=by
 induction h with
 |found h0 h1 hl wq=>exact fun o d=>⟨d,.found h0 h1 hl wq⟩
 |tree eO yw AL L3 h0 h1 h ih=>exact fun o d=>let ⟨_,k⟩:=ih o d;⟨_,.tree eO yw AL L3 h0 h1 k⟩
 |Aa h0 h1 h ih=>exact fun o d=>let ⟨_,k⟩:=ih o d;⟨_,.Aa h0 h1 k⟩
 |stay h0 h1 hk hi=>exact fun o d=>⟨d,.stay h0 h1 hk hi⟩
 |iter h0 h1 hk dL eO h ih=>exact fun o d=>let ⟨_,k⟩:=ih o d;⟨_,.iter h0 h1 hk dL eO k⟩
 |save h0 h1 h ih=>exact fun o d=>let ⟨_,k⟩:=ih o d;⟨_,.save h0 h1 k⟩
 |here h0 h1 hi h ih=>exact fun o d=>let ⟨_,k⟩:=ih o d;⟨_,.here h0 h1 hi k⟩
 |gone h0 h1 hi=>exact fun o d=>⟨d,.gone h0 h1 hi⟩
 |qc hm h hx ih=>exact fun o d=>let ⟨_,k⟩:=ih o d;⟨_,.qc hm k hx⟩
 |uz hm h hx he ih=>exact fun o d=>let ⟨_,k⟩:=ih o d;⟨_,.uz hm k hx he⟩
 |qZ hm h hx he hd h2 ih gz=>exact fun o d=>let ⟨d1,k⟩:=ih o d;let ⟨_,k2⟩:=gz o d1;⟨_,.qZ hm k hx he hd k2⟩
 |uo hm hs he=>exact fun o d=>⟨d,.uo hm hs he⟩
 |ug hm hs he bH hk h ih=>exact fun o d=>let ⟨_,k⟩:=ih o d;⟨_,.ug hm hs he bH hk k⟩
 |oV hm hs he bH hk hx h ih=>exact fun o d=>let ⟨_,k⟩:=ih o d;⟨_,.oV hm hs he bH hk hx k⟩
 |Ai hm hs he bH hk hx h ih=>exact fun o d=>let ⟨_,k⟩:=ih (o+1) (max d (o+1));⟨_,.Ai hm hs he bH hk hx k⟩
 |zj hm hs he bH hk hx h h2 ih gz=>exact fun o d=>let ⟨d1,k⟩:=ih (o+1) (max d (o+1));let ⟨_,k2⟩:=gz o d1;⟨_,.zj hm hs he bH hk hx k k2⟩
 |ze hm ly hs he bH hk hx h ih=>exact fun o d=>let ⟨_,k⟩:=ih (o+1) (max d (o+1));⟨_,.ze hm ly hs he bH hk hx k⟩
 |z7 hm ly hs he bH hk hx h h2 ih gz=>exact fun o d=>let ⟨d1,k⟩:=ih (o+1) (max d (o+1));let ⟨_,k2⟩:=gz o d1;⟨_,.z7 hm ly hs he bH hk hx k k2⟩
 |qJ ho h0 h1 h ih=>exact fun o d=>let ⟨_,k⟩:=ih o d;⟨_,.qJ ho h0 h1 k⟩
 |qW ho hs he=>exact fun o d=>⟨d,.qW ho hs he⟩
 |node ho hs he h ih=>exact fun o d=>let ⟨_,k⟩:=ih o d;⟨_,.node ho hs he k⟩
 |empty ho h ih=>exact fun o d=>let ⟨_,k⟩:=ih o d;⟨_,.empty ho k⟩
 |tY ho hi hs h ih=>exact fun o d=>let ⟨_,k⟩:=ih o d;⟨_,.tY ho hi hs k⟩
 |zf ho hn=>exact fun o d=>⟨d,.zf ho hn⟩
 |cat ho h ih=>exact fun o d=>let ⟨_,k⟩:=ih o d;⟨_,.cat ho k⟩
 |alt ho h ih=>exact fun o d=>let ⟨_,k⟩:=ih o d;⟨_,.alt ho k⟩
 |uB =>exact fun o d=>⟨d,.uB ⟩
 |GJ h ih=>exact fun o d=>let ⟨_,k⟩:=ih (aO _ o) (aD _ o d);⟨_,.GJ k⟩
 |AE h h2 ih gz=>exact fun o d=>let ⟨d1,k⟩:=ih (aO _ o) (aD _ o d);let ⟨_,k2⟩:=gz o d1;⟨_,.AE k k2⟩
 |cap ho bH h ih=>exact fun o d=>let ⟨_,k⟩:=ih o d;⟨_,.cap ho bH k⟩
 |qX ho hx=>exact fun o d=>⟨d,.qX ho hx⟩
 |qt ho hx bW h2 hl=>exact fun o d=>⟨d,.qt ho hx bW h2 hl⟩
 |ud ho hx bW h2 hl hs h ih=>exact fun o d=>let ⟨_,k⟩:=ih o d;⟨_,.ud ho hx bW h2 hl hs k⟩
 |Ae ho hx bW h2 hl hs=>exact fun o d=>⟨d,.Ae ho hx bW h2 hl hs⟩
 |ng ho bH h hx ih=>exact fun o d=>let ⟨_,k⟩:=ih o d;⟨_,.ng ho bH k hx⟩
 |qa ho bH h hx he hn ih=>exact fun o d=>let ⟨_,k⟩:=ih o d;⟨_,.qa ho bH k hx he hn⟩
 |jN ho bH h hx he hn h2 ih gz=>exact fun o d=>let ⟨d1,k⟩:=ih o d;let ⟨_,k2⟩:=gz o d1;⟨_,.jN ho bH k hx he hn k2⟩
 |nt ho bH h hx he hd hn h2 ih gz=>exact fun o d=>let ⟨d1,k⟩:=ih o d;let ⟨_,k2⟩:=gz o d1;⟨_,.nt ho bH k hx he hd hn k2⟩
 |iZ ho bH h hx he hd hn ih=>exact fun o d=>let ⟨_,k⟩:=ih o d;⟨_,.iZ ho bH k hx he hd hn⟩
 |behind ho bH he h ih=>exact fun o d=>let ⟨_,k⟩:=ih o d;⟨_,.behind ho bH he k⟩
 |Hv hn=>exact fun o d=>⟨d,.Hv hn⟩
 |qm hn h ih=>exact fun o d=>let ⟨_,k⟩:=ih o d;⟨_,.qm hn k⟩
 |zx h hx ih=>exact fun o d=>let ⟨_,k⟩:=ih o d;⟨_,.zx k hx⟩
 |zF h hx he hd hn h2 ih gz=>exact fun o d=>let ⟨d1,k⟩:=ih o d;let ⟨_,k2⟩:=gz o d1;⟨_,.zF k hx he hd hn k2⟩
 |nk h hx he hd hn ih=>exact fun o d=>let ⟨_,k⟩:=ih o d;⟨_,.nk k hx he hd hn⟩
 |uP h hx he h2 ih gz=>exact fun o d=>let ⟨d1,k⟩:=ih o d;let ⟨_,k2⟩:=gz o d1;⟨_,.uP k hx he k2⟩
 |pZ ho bH h hx ih=>exact fun o d=>let ⟨_,k⟩:=ih o d;⟨_,.pZ ho bH k hx⟩
 |uO ho bH h hx he ih=>exact fun o d=>let ⟨_,k⟩:=ih o d;⟨_,.uO ho bH k hx he⟩
 |qQ ho bH h hx he hd h2 ih gz=>exact fun o d=>let ⟨d1,k⟩:=ih o d;let ⟨_,k2⟩:=gz o d1;⟨_,.qQ ho bH k hx he hd k2⟩
 |cond ho bH h ih=>exact fun o d=>let ⟨_,k⟩:=ih o d;⟨_,.cond ho bH k⟩
 |lB ho hh h ih=>exact fun o d=>let ⟨_,k⟩:=ih o d;⟨_,.lB ho hh k⟩
 |ny ho hh=>exact fun o d=>⟨d,.ny ho hh⟩
end Go.Proofs.Ytllagoeijcjpiaa
