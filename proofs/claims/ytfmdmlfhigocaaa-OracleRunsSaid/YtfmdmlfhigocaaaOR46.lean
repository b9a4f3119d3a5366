/- A part of the proof (E1 G54 G55 K7 K8 K9 K10). -/
import Derived.Test.YtfmdmlfhigocaaaOR21
import Derived.Test.YtfmdmlfhigocaaaOR24
import Derived.Test.YtfmdmlfhigocaaaOR25
import Derived.Test.YtfmdmlfhigocaaaOR45
set_option linter.unusedSimpArgs false
set_option linter.unusedVariables false
set_option maxRecDepth 100000
set_option maxHeartbeats 80000000
namespace Go.Proofs.Ytfmdmlfhigocaaa
open Go.VL Go.Proofs.Try
inductive ETask where
 |run (g:Goal) (i:Int) (c:aD)
 |rep (re:Re) (k:Int) (nx:Goal) (i:Int) (c:aD)
 |node (re:Re) (nx:Goal) (i:Int) (c:aD)
 |body (re:Re) (nx:Goal) (i:Int) (c:aD)
 |alt (l:List Re) (nx:Goal) (i:Int) (c:aD)
 |behind (re aP:Re) (nx:Goal) (i:Int) (c:aD) (j:Nat)
def bh.sub (st:bh):bh:=⟨st.steps,false,[],[]⟩
def bh.C7 (st x:bh):bh:={ st with steps:=x.steps,empty:=x.empty }
def pR (i:Int):Goal:=.mk 4 (.mk 0 [] [] 0 0 0 0 false) 0 i .nil
inductive eB (t:List Int) (F:Int):Int->ETask->bh->Bool->bh->Prop where
 |found {most:Int}{i:Int}{c:aD}{st:bh} (h0:0<=i) (h1:i<=t.length) (hl:st.ai.length=st.ends.length) (tN:st.ends.length<2000000000000):eB t F most (.run .nil i c) st (decide (0<=most)&&decide (most<=(st.ends.length:Int)+1)) { st with ends:=st.ends++[i],ai:=st.ai++[c] }
 |tree {most kind k f i:Int}{re:Re}{nx:Goal}{c:aD}{st st':bh}{b:Bool} (AX:kind≠1) (Am:kind≠2) (Ew:kind≠3) (hk4:kind≠4) (h0:0<=i) (h1:i<=t.length) (h:eB t F most (.node re nx i c) st b st'):eB t F most (.run (.mk kind re k f nx) i c) st b st'
 |PM {most k f i:Int}{re:Re}{nx:Goal}{c:aD}{st st':bh}{b:Bool} (h0:0<=i) (h1:i<=t.length) (h:eB t F most (.rep re k nx i c) st b st'):eB t F most (.run (.mk 1 re k f nx) i c) st b st'
 |stay {most k f i:Int}{re:Re}{nx:Goal}{c:aD}{st:bh} (h0:0<=i) (h1:i<=t.length) (hk:re.mn<=k) (hi:i=f):eB t F most (.run (.mk 2 re k f nx) i c) st false st
 |iter {most k f i:Int}{re:Re}{nx:Goal}{c:aD}{st st':bh}{b:Bool} (h0:0<=i) (h1:i<=t.length) (hk:¬(re.mn<=k/\i=f)) (hk0:0<=k) (AX:k<=10000000000000) (h:eB t F most (.run (.mk 1 re (k+1) 0 nx) i c) st b st'):eB t F most (.run (.mk 2 re k f nx) i c) st b st'
 |save {most k f i:Int}{re:Re}{nx:Goal}{c:aD}{st st':bh}{b:Bool} (h0:0<=i) (h1:i<=t.length) (h:eB t F most (.run nx i (ou c re.n f i)) st b st'):eB t F most (.run (.mk 3 re k f nx) i c) st b st'
 |here {most k f i:Int}{re:Re}{nx:Goal}{c:aD}{st st':bh}{b:Bool} (h0:0<=i) (h1:i<=t.length) (hi:i=f) (h:eB t F most (.run nx i c) st b st'):eB t F most (.run (.mk 4 re k f nx) i c) st b st'
 |gone {most k f i:Int}{re:Re}{nx:Goal}{c:aD}{st:bh} (h0:0<=i) (h1:i<=t.length) (hi:i≠f):eB t F most (.run (.mk 4 re k f nx) i c) st false st
 |CJ {most k i:Int}{re:Re}{nx:Goal}{c:aD}{st x:bh}{b:Bool} (hm:re.mode=2) (h:eB t F 1 (.run (.mk 1 (re.eo 0) 0 0 .nil) i c) st.sub b x) (hx:x.empty=true):eB t F most (.rep re k nx i c) st true (st.C7 x)
 |IS {most k i:Int}{re:Re}{nx:Goal}{c:aD}{st x:bh}{b:Bool} (hm:re.mode=2) (h:eB t F 1 (.run (.mk 1 (re.eo 0) 0 0 .nil) i c) st.sub b x) (hx:x.empty=false) (he:x.ends=[]):eB t F most (.rep re k nx i c) st false (st.C7 x)
 |Di {most k i e:Int}{re:Re}{nx:Goal}{c d:aD}{le:List Int}{ld:List aD}{st x st':bh}{b b':Bool} (hm:re.mode=2) (h:eB t F 1 (.run (.mk 1 (re.eo 0) 0 0 .nil) i c) st.sub b x) (hx:x.empty=false) (he:x.ends=e::le) (hd:x.ai=d::ld) (h2:eB t F most (.run nx e d) (st.C7 x) b' st'):eB t F most (.rep re k nx i c) st b' st'
 |IK {most k i:Int}{re:Re}{nx:Goal}{c:aD}{st:bh} (hm:re.mode≠2) (hs:0<=st.steps) (he:(st.step F).empty=true):eB t F most (.rep re k nx i c) st true (st.step F)
 |IJ {most k i:Int}{re aP:Re}{l:List Re}{nx:Goal}{c:aD}{st st':bh}{b:Bool} (hm:re.mode≠2) (hs:0<=st.steps) (he:(st.step F).empty=false) (dt:re.kids=aP::l) (hk:k<re.mn) (h:eB t F most (.run (.mk 0 aP 0 0 (.mk 2 re k i nx)) i c) (st.step F) b st'):eB t F most (.rep re k nx i c) st b st'
 |Ar {most k i:Int}{re aP:Re}{l:List Re}{nx:Goal}{c:aD}{st st':bh}{b:Bool} (hm:re.mode≠2) (hs:0<=st.steps) (he:(st.step F).empty=false) (dt:re.kids=aP::l) (hk:¬k<re.mn) (hx:¬(re.mx=-1\/k<re.mx)) (h:eB t F most (.run nx i c) (st.step F) b st'):eB t F most (.rep re k nx i c) st b st'
 |Fj {most k i:Int}{re aP:Re}{l:List Re}{nx:Goal}{c:aD}{st st':bh} (hm:re.mode=1) (hs:0<=st.steps) (he:(st.step F).empty=false) (dt:re.kids=aP::l) (hk:¬k<re.mn) (hx:re.mx=-1\/k<re.mx) (h:eB t F most (.run nx i c) (st.step F) true st'):eB t F most (.rep re k nx i c) st true st'
 |D8 {most k i:Int}{re aP:Re}{l:List Re}{nx:Goal}{c:aD}{st s2 st':bh}{b:Bool} (hm:re.mode=1) (hs:0<=st.steps) (he:(st.step F).empty=false) (dt:re.kids=aP::l) (hk:¬k<re.mn) (hx:re.mx=-1\/k<re.mx) (h:eB t F most (.run nx i c) (st.step F) false s2)
   (h2:eB t F most (.run (.mk 0 aP 0 0 (.mk 2 re k i nx)) i c) s2 b st'):eB t F most (.rep re k nx i c) st b st'
 |OK {most k i:Int}{re aP:Re}{l:List Re}{nx:Goal}{c:aD}{st st':bh} (hm:re.mode≠2) (JH:re.mode≠1) (hs:0<=st.steps) (he:(st.step F).empty=false) (dt:re.kids=aP::l) (hk:¬k<re.mn) (hx:re.mx=-1\/k<re.mx) (h:eB t F most (.run (.mk 0 aP 0 0 (.mk 2 re k i nx)) i c) (st.step F) true st'):eB t F most (.rep re k nx i c) st true st'
 |PC {most k i:Int}{re aP:Re}{l:List Re}{nx:Goal}{c:aD}{st s2 st':bh}{b:Bool} (hm:re.mode≠2) (JH:re.mode≠1) (hs:0<=st.steps) (he:(st.step F).empty=false) (dt:re.kids=aP::l) (hk:¬k<re.mn) (hx:re.mx=-1\/k<re.mx) (h:eB t F most (.run (.mk 0 aP 0 0 (.mk 2 re k i nx)) i c) (st.step F) false s2)
   (h2:eB t F most (.run nx i c) s2 b st'):eB t F most (.rep re k nx i c) st b st'
 |C5 {most i:Int}{re:Re}{nx:Goal}{c:aD}{st st':bh}{b:Bool} (ho:re.op=4) (h0:0<=i) (h1:i<=t.length) (h:eB t F most (.rep re 0 nx i c) st b st'):eB t F most (.node re nx i c) st b st'
 |Dg {most i:Int}{re:Re}{nx:Goal}{c:aD}{st:bh} (ho:re.op≠4) (hs:0<=st.steps) (he:(st.step F).empty=true):eB t F most (.node re nx i c) st true (st.step F)
 |node {most i:Int}{re:Re}{nx:Goal}{c:aD}{st st':bh}{b:Bool} (ho:re.op≠4) (hs:0<=st.steps) (he:(st.step F).empty=false) (h:eB t F most (.body re nx i c) (st.step F) b st'):eB t F most (.node re nx i c) st b st'
 |empty {most i:Int}{re:Re}{nx:Goal}{c:aD}{st st':bh}{b:Bool} (ho:re.op ∉ ([1,2,3,5,6,7,8,9,10,11]:List Int)) (h:eB t F most (.run nx i c) st b st'):eB t F most (.body re nx i c) st b st'
 |IB {most i:Int}{re:Re}{nx:Goal}{c:aD}{st st':bh}{b:Bool} (ho:re.op=1) (hi:i<t.length) (hs:E7 re.set (oo t i)=true) (h:eB t F most (.run nx (i+1) c) st b st'):eB t F most (.body re nx i c) st b st'
 |OL {most i:Int}{re:Re}{nx:Goal}{c:aD}{st:bh} (ho:re.op=1) (hn:¬(i<t.length/\E7 re.set (oo t i)=true)):eB t F most (.body re nx i c) st false st
 |cat {most i:Int}{re:Re}{nx:Goal}{c:aD}{st st':bh}{b:Bool} (ho:re.op=2) (h:eB t F most (.run (iB re.kids nx) i c) st b st'):eB t F most (.body re nx i c) st b st'
 |alt {most i:Int}{re:Re}{nx:Goal}{c:aD}{st st':bh}{b:Bool} (ho:re.op=3) (h:eB t F most (.alt re.kids nx i c) st b st'):eB t F most (.body re nx i c) st b st'
 |IW {most i:Int}{nx:Goal}{c:aD}{st:bh}:eB t F most (.alt [] nx i c) st false st
 |U2 {most i:Int}{aP:Re}{l:List Re}{nx:Goal}{c:aD}{st st':bh} (h:eB t F most (.run (.mk 0 aP 0 0 nx) i c) st true st'):eB t F most (.alt (aP::l) nx i c) st true st'
 |Cp {most i:Int}{aP:Re}{l:List Re}{nx:Goal}{c:aD}{st s2 st':bh}{b:Bool} (h:eB t F most (.run (.mk 0 aP 0 0 nx) i c) st false s2) (h2:eB t F most (.alt l nx i c) s2 b st'):eB t F most (.alt (aP::l) nx i c) st b st'
 |cap {most i:Int}{re aP:Re}{l:List Re}{nx:Goal}{c:aD}{st st':bh}{b:Bool} (ho:re.op=5) (dt:re.kids=aP::l) (h:eB t F most (.run (.mk 0 aP 0 0 (.mk 3 re 0 i nx)) i c) st b st'):eB t F most (.body re nx i c) st b st'
 |Jn {most i:Int}{re:Re}{nx:Goal}{c:aD}{st:bh} (ho:re.op=6) (hx:(bG c re.n).1<0):eB t F most (.body re nx i c) st false st
 |Iz {most i:Int}{re:Re}{nx:Goal}{c:aD}{st:bh} (ho:re.op=6) (hx:¬(bG c re.n).1<0) (kz:¬(bG c re.n).2<(bG c re.n).1) (h2:(bG c re.n).2<=t.length) (hl:t.length<i+(bG c re.n).2-(bG c re.n).1):eB t F most (.body re nx i c) st false st
 |Nx {most i:Int}{re:Re}{nx:Goal}{c:aD}{st st':bh}{b:Bool} (ho:re.op=6) (hx:¬(bG c re.n).1<0) (kz:¬(bG c re.n).2<(bG c re.n).1) (h2:(bG c re.n).2<=t.length) (hl:¬t.length<i+(bG c re.n).2-(bG c re.n).1) (hs:ph t (bG c re.n).1 i ((bG c re.n).2-(bG c re.n).1).toNat=true)
   (h:eB t F most (.run nx (i+(bG c re.n).2-(bG c re.n).1) c) st b st'):eB t F most (.body re nx i c) st b st'
 |Un {most i:Int}{re:Re}{nx:Goal}{c:aD}{st:bh} (ho:re.op=6) (hx:¬(bG c re.n).1<0) (kz:¬(bG c re.n).2<(bG c re.n).1) (h2:(bG c re.n).2<=t.length) (hl:¬t.length<i+(bG c re.n).2-(bG c re.n).1) (hs:ph t (bG c re.n).1 i ((bG c re.n).2-(bG c re.n).1).toNat=false):eB t F most (.body re nx i c) st false st
 |yN {most i:Int}{re aP:Re}{l:List Re}{nx:Goal}{c:aD}{st x:bh}{b:Bool} (ho:re.op=7) (dt:re.kids=aP::l) (h:eB t F 1 (.run (.mk 0 aP 0 0 .nil) i c) st.sub b x) (hx:x.empty=true):eB t F most (.body re nx i c) st true (st.C7 x)
 |CH {most i:Int}{re aP:Re}{l:List Re}{nx:Goal}{c:aD}{st x:bh}{b:Bool} (ho:re.op=7) (dt:re.kids=aP::l) (h:eB t F 1 (.run (.mk 0 aP 0 0 .nil) i c) st.sub b x) (hx:x.empty=false) (he:x.ends=[]) (hn:re.neg=false):eB t F most (.body re nx i c) st false (st.C7 x)
 |sk {most i:Int}{re aP:Re}{l:List Re}{nx:Goal}{c:aD}{st x st':bh}{b b':Bool} (ho:re.op=7) (dt:re.kids=aP::l) (h:eB t F 1 (.run (.mk 0 aP 0 0 .nil) i c) st.sub b x) (hx:x.empty=false) (he:x.ends=[]) (hn:re.neg=true) (h2:eB t F most (.run nx i c) (st.C7 x) b' st'):eB t F most (.body re nx i c) st b' st'
 |zj {most i e:Int}{re aP:Re}{l:List Re}{nx:Goal}{c d:aD}{le:List Int}{ld:List aD}{st x st':bh}{b b':Bool} (ho:re.op=7) (dt:re.kids=aP::l) (h:eB t F 1 (.run (.mk 0 aP 0 0 .nil) i c) st.sub b x) (hx:x.empty=false) (he:x.ends=e::le) (hd:x.ai=d::ld) (hn:re.neg=false) (h2:eB t F most (.run nx i d) (st.C7 x) b' st'):eB t F most (.body re nx i c) st b' st'
 |qg {most i e:Int}{re aP:Re}{l:List Re}{nx:Goal}{c d:aD}{le:List Int}{ld:List aD}{st x:bh}{b:Bool} (ho:re.op=7) (dt:re.kids=aP::l) (h:eB t F 1 (.run (.mk 0 aP 0 0 .nil) i c) st.sub b x) (hx:x.empty=false) (he:x.ends=e::le) (hd:x.ai=d::ld) (hn:re.neg=true):eB t F most (.body re nx i c) st false (st.C7 x)
 |behind {most i:Int}{re aP:Re}{l:List Re}{nx:Goal}{c:aD}{st st':bh}{b:Bool} (ho:re.op=8) (dt:re.kids=aP::l) (he:st.empty=false) (h:eB t F most (.behind re aP nx i c (i.toNat+1)) st b st'):eB t F most (.body re nx i c) st b st'
 |VI {most i:Int}{re aP:Re}{nx:Goal}{c:aD}{st:bh} (hn:re.neg=false):eB t F most (.behind re aP nx i c 0) st false st
 |CN {most i:Int}{re aP:Re}{nx:Goal}{c:aD}{st st':bh}{b:Bool} (hn:re.neg=true) (h:eB t F most (.run nx i c) st b st'):eB t F most (.behind re aP nx i c 0) st b st'
 |Pc {most i:Int}{j:Nat}{re aP:Re}{nx:Goal}{c:aD}{st x:bh}{b:Bool} (h:eB t F 1 (.run (.mk 0 aP 0 0 (pR i)) j c) st.sub b x) (hx:x.empty=true):eB t F most (.behind re aP nx i c (j+1)) st true (st.C7 x)
 |Pn {most i e:Int}{j:Nat}{re aP:Re}{nx:Goal}{c d:aD}{le:List Int}{ld:List aD}{st x st':bh}{b b':Bool} (h:eB t F 1 (.run (.mk 0 aP 0 0 (pR i)) j c) st.sub b x) (hx:x.empty=false) (he:x.ends=e::le) (hd:x.ai=d::ld) (hn:re.neg=false) (h2:eB t F most (.run nx i d) (st.C7 x) b' st'):eB t F most (.behind re aP nx i c (j+1)) st b' st'
 |y4 {most i e:Int}{j:Nat}{re aP:Re}{nx:Goal}{c d:aD}{le:List Int}{ld:List aD}{st x:bh}{b:Bool} (h:eB t F 1 (.run (.mk 0 aP 0 0 (pR i)) j c) st.sub b x) (hx:x.empty=false) (he:x.ends=e::le) (hd:x.ai=d::ld) (hn:re.neg=true):eB t F most (.behind re aP nx i c (j+1)) st false (st.C7 x)
 |Jd {most i:Int}{j:Nat}{re aP:Re}{nx:Goal}{c:aD}{st x st':bh}{b b':Bool} (h:eB t F 1 (.run (.mk 0 aP 0 0 (pR i)) j c) st.sub b x) (hx:x.empty=false) (he:x.ends=[]) (h2:eB t F most (.behind re aP nx i c j) (st.C7 x) b' st'):eB t F most (.behind re aP nx i c (j+1)) st b' st'
 |Ia {most i:Int}{re aP:Re}{l:List Re}{nx:Goal}{c:aD}{st x:bh}{b:Bool} (ho:re.op=9) (dt:re.kids=aP::l) (h:eB t F 1 (.run (.mk 0 aP 0 0 .nil) i c) st.sub b x) (hx:x.empty=true):eB t F most (.body re nx i c) st true (st.C7 x)
 |Oq {most i:Int}{re aP:Re}{l:List Re}{nx:Goal}{c:aD}{st x:bh}{b:Bool} (ho:re.op=9) (dt:re.kids=aP::l) (h:eB t F 1 (.run (.mk 0 aP 0 0 .nil) i c) st.sub b x) (hx:x.empty=false) (he:x.ends=[]):eB t F most (.body re nx i c) st false (st.C7 x)
 |Jb {most i e:Int}{re aP:Re}{l:List Re}{nx:Goal}{c d:aD}{le:List Int}{ld:List aD}{st x st':bh}{b b':Bool} (ho:re.op=9) (dt:re.kids=aP::l) (h:eB t F 1 (.run (.mk 0 aP 0 0 .nil) i c) st.sub b x) (hx:x.empty=false) (he:x.ends=e::le) (hd:x.ai=d::ld) (h2:eB t F most (.run nx e d) (st.C7 x) b' st'):eB t F most (.body re nx i c) st b' st'
 |cond {most i:Int}{re yes no:Re}{l:List Re}{nx:Goal}{c:aD}{st st':bh}{b:Bool} (ho:re.op=10) (dt:re.kids=yes::no::l) (h:eB t F most (.run (.mk 0 (if 0<=(bG c re.n).1 then yes else no) 0 0 nx) i c) st b st'):eB t F most (.body re nx i c) st b st'
 |vZ {most i:Int}{re:Re}{nx:Goal}{c:aD}{st st':bh}{b:Bool} (ho:re.op=11) (hh:bY re.n t i=true) (h:eB t F most (.run nx i c) st b st'):eB t F most (.body re nx i c) st b st'
 |zx {most i:Int}{re:Re}{nx:Goal}{c:aD}{st:bh} (ho:re.op=11) (hh:bY re.n t i=false):eB t F most (.body re nx i c) st false st
theorem pf {rec:Int->Task->bh->Option (Bool×bh)}{g:Goal}{i:Int}{c:aD}{st s2:bh}{o:Option (Int×aD)} (h:cF rec g i c st=some (o,s2)) :
  ∃b x,rec 1 (.run g i c) st.sub=some (b,x)/\s2=st.C7 x/\((x.empty=true/\o=none)\/(x.empty=false/\x.ends=[]/\o=none)\/(x.empty=false/\∃e le d ld,x.ends=e::le/\x.ai=d::ld/\o=some (e,d))):=by
 unfold cF at h;unfold bh.sub bh.C7;cases hx:rec 1 (.run g i c) ⟨st.steps,false,[],[]⟩ with
 |none=>rw[hx]at h;cases h
 |some y =>
  obtain⟨b,x⟩:=y;rw[hx]at h;simp only at h;refine⟨b,x,rfl,?_⟩;cases he:x.empty with
  |true =>
   rw[he,be rfl]at h;cases h;exact⟨rfl,.inl ⟨rfl,rfl⟩⟩
  |false =>
   rw[he,ap Bool.false_ne_true]at h;cases hE:x.ends with
   |nil =>
    rw[hE]at h;cases h;exact⟨rfl,.inr (.inl ⟨rfl,rfl,rfl⟩)⟩
   |cons e le =>
    cases hD:x.ai with
    |nil=>rw[hE,hD]at h;cases h
    |cons d ld =>
     rw[hE,hD]at h;cases h;exact⟨rfl,.inr (.inr ⟨rfl,e,le,d,ld,rfl,rfl,rfl⟩)⟩
def Task.e:Task->ETask
 |.run g i c=>.run g i c
 |.rep (.mk _ re k _ nx) i c=>.rep re k nx i c
 |.rep .nil i c=>.alt [] .nil i c
 |.node (.mk _ re _ _ nx) i c=>.node re nx i c
 |.node .nil i c=>.alt [] .nil i c
section conv
variable {t:List Int}{F:Int}{rec:Int->Task->bh->Option (Bool×bh)} (di:∀most task st b st',rec most task st=some (b,st')->eB t F most task.e st b st')
variable{nx:Goal}{st':bh}{most:Int}{b:Bool}
include di
theorem Ik {most:Int}{nx:Goal}{i:Int}{c:aD}:∀(l:List Re) (st st':bh) (b:Bool),po (λk st=>rec most (.run (.mk 0 k 0 0 nx) i c) st) l st=some (b,st')->eB t F most (.alt l nx i c) st b st'
 |[],st,st',b,h=>by simp only[po]at h;cases h;exact .IW
 |k::l,st,st',b,h=>by
  simp only[po]at h;cases hx:rec most (.run (.mk 0 k 0 0 nx) i c) st with
  |none=>rw[hx]at h;cases h
  |some y =>
   obtain⟨b1,s2⟩:=y;rw[hx]at h;have h1:=di _ _ _ _ _ hx;cases b1 with
   |true=>simp only[rS]at h;cases h;exact .U2 h1
   |false=>simp only[rS]at h;exact .Cp h1 (Ik l s2 st' b h)
theorem Ea {most:Int}{re aP:Re}{nx:Goal}{i:Int}{c:aD}{b:Bool}{st':bh}:∀(j:Nat) (st s2:bh) (ro:Option aD),st.empty=false->dh (λk st=>cF rec (.mk 0 aP 0 0 (pR i)) k c st) j st=some (ro,s2) ->
  (if s2.empty then some (true,s2) else if re.neg=true then (match ro with|some _=>some (false,s2)|none=>rec most (.run nx i c) s2) else match ro with|some d=>rec most (.run nx i d) s2|none=>some (false,s2))=some (b,st')->eB t F most (.behind re aP nx i c j) st b st'
 |0,st,s2,ro,he,hb,h=>by
  simp only[dh]at hb;cases hb;rw[ap (by rw[he];exact Bool.false_ne_true)]at h;by_cases hn:re.neg=true
  ·rw[be hn]at h;exact .CN hn (di _ _ _ _ _ h)
  ·rw[ap hn]at h;cases h;exact .VI (by simpa using hn)
 |j+1,st,s2,ro,he,hb,h=>by
  simp only[dh]at hb;rw[ap (by rw[he];exact Bool.false_ne_true)]at hb;cases hf:cF rec (.mk 0 aP 0 0 (pR i)) j c st with
  |none=>rw[hf]at hb;cases hb
  |some y =>
   obtain⟨o,s3⟩:=y;rw[hf]at hb;obtain⟨b1,x,k1,rfl,k2⟩:=pf hf;have h1:=di _ _ _ _ _ k1;rcases k2 with ⟨e1,rfl⟩|⟨e1,e2,rfl⟩|⟨e1,e,le,d,ld,e2,e3,rfl⟩
   ·have hae:(st.C7 x).empty=true:=e1;simp only at hb;have VF:(ro,s2)=(none,st.C7 x):=by
     cases j with
     |zero=>simp only[dh]at hb;exact(Option.some.inj hb).symm
     |succ j=>simp only[dh]at hb;rw[be hae]at hb;exact(Option.some.inj hb).symm
    cases VF;rw[be hae]at h;cases h;exact .Pc h1 e1
   ·simp only at hb;exact .Jd h1 e1 e2 (Ea j _ s2 ro e1 hb h)
   ·simp only at hb;cases hb;rw[ap (by show ¬x.empty=true;rw[e1];exact Bool.false_ne_true)]at h;by_cases hn:re.neg=true
    ·rw[be hn]at h;cases h;exact .y4 h1 e1 e2 e3 hn
    ·rw[ap hn]at h;exact .Pn h1 e1 e2 e3 (by simpa using hn) (di _ _ _ _ _ h)
theorem Ur{re:Re}{i:Int}{c:aD}{st:bh} (uw:st.empty=false) (h:dI t rec most re nx i c st=some (b,st')):eB t F most (.body re nx i c) st b st':=by
 unfold dI at h;by_cases o1:re.op=1
 ·rw[be o1]at h;by_cases hc:i<t.length/\E7 re.set (oo t i)=true
  ·rw[be hc]at h;exact .IB o1 hc.1 hc.2 (di _ _ _ _ _ h)
  ·rw[ap hc]at h;cases h;exact .OL o1 hc
 rw[ap o1]at h;by_cases o2:re.op=2
 ·rw[be o2]at h;exact .cat o2 (di _ _ _ _ _ h)
 rw[ap o2]at h;by_cases o3:re.op=3
 ·rw[be o3]at h;exact .alt o3 (Ik di _ _ _ _ h)
 rw[ap o3]at h;by_cases o5:re.op=5
 ·rw[be o5]at h;cases hk:re.kids with
  |nil=>rw[hk]at h;cases h
  |cons k l=>rw[hk]at h;exact .cap o5 hk (di _ _ _ _ _ h)
 rw[ap o5]at h;by_cases o6:re.op=6
 ·rw[be o6]at h;simp only at h;by_cases c1:(bG c re.n).1<0
  ·rw[be c1]at h;cases h;exact .Jn o6 c1
  rw[ap c1]at h;by_cases c2:(bG c re.n).2<(bG c re.n).1\/(t.length:Int)<(bG c re.n).2
  ·rw[be c2]at h;cases h
  rw[ap c2]at h;by_cases c3:t.length<i+(bG c re.n).2-(bG c re.n).1
  ·rw[be c3]at h;cases h;exact .Iz o6 c1 ae ae c3
  rw[ap c3]at h;by_cases c4:ph t (bG c re.n).1 i ((bG c re.n).2-(bG c re.n).1).toNat=true
  ·rw[be c4]at h;exact .Nx o6 c1 ae ae c3 c4 (di _ _ _ _ _ h)
  ·rw[ap c4]at h;cases h;exact .Un o6 c1 ae ae c3 (by simpa using c4)
 rw[ap o6]at h;by_cases o7:re.op=7\/re.op=8
 ·rw[be o7]at h;cases hk:re.kids with
  |nil=>rw[hk]at h;cases h
  |cons k l =>
   rw[hk]at h;simp only at h;cases hx:lG rec re.op k i c st with
   |none=>rw[hx]at h;cases h
   |some y =>
    obtain⟨ro,s2⟩:=y;rw[hx]at h;simp only at h;unfold lG at hx;by_cases p7:re.op=7
    ·rw[be p7]at hx;cases hf:cF rec (.mk 0 k 0 0 .nil) i c st with
     |none=>rw[hf]at hx;cases hx
     |some z =>
      obtain⟨o,s3⟩:=z;rw[hf]at hx;cases hx;obtain⟨b1,x,k1,rfl,k2⟩:=pf hf;have h1:=di _ _ _ _ _ k1;rcases k2 with ⟨e1,rfl⟩|⟨e1,e2,rfl⟩|⟨e1,e,le,d,ld,e2,e3,rfl⟩
      ·rw[be (show (st.C7 x).empty=true from e1)]at h;cases h;exact .yN p7 hk h1 e1
      ·rw[ap (by show ¬x.empty=true;rw[e1];exact Bool.false_ne_true)]at h;by_cases hn:re.neg=true
       ·rw[be hn]at h;exact .sk p7 hk h1 e1 e2 hn (di _ _ _ _ _ h)
       ·rw[ap hn]at h;cases h;exact .CH p7 hk h1 e1 e2 (by simpa using hn)
      ·rw[ap (by show ¬x.empty=true;rw[e1];exact Bool.false_ne_true)]at h;by_cases hn:re.neg=true
       ·rw[be hn]at h;cases h;exact .qg p7 hk h1 e1 e2 e3 hn
       ·rw[ap hn]at h;exact .zj p7 hk h1 e1 e2 e3 (by simpa using hn) (di _ _ _ _ _ h)
    ·rw[ap p7]at hx;exact .behind ae hk uw (Ea di _ _ _ _ uw hx h)
 rw[ap o7]at h;by_cases o9:re.op=9
 ·rw[be o9]at h;cases hk:re.kids with
  |nil=>rw[hk]at h;cases h
  |cons k l =>
   rw[hk]at h;simp only at h;cases hf:cF rec (.mk 0 k 0 0 .nil) i c st with
   |none=>rw[hf]at h;cases h
   |some z =>
    obtain⟨o,s3⟩:=z;rw[hf]at h;simp only at h;obtain⟨b1,x,k1,rfl,k2⟩:=pf hf;have h1:=di _ _ _ _ _ k1;rcases k2 with ⟨e1,rfl⟩|⟨e1,e2,rfl⟩|⟨e1,e,le,d,ld,e2,e3,rfl⟩
    ·rw[be (show (st.C7 x).empty=true from e1)]at h;cases h;exact .Ia o9 hk h1 e1
    ·rw[ap (by show ¬x.empty=true;rw[e1];exact Bool.false_ne_true)]at h;cases h;exact .Oq o9 hk h1 e1 e2
    ·rw[ap (by show ¬x.empty=true;rw[e1];exact Bool.false_ne_true)]at h;exact .Jb o9 hk h1 e1 e2 e3 (di _ _ _ _ _ h)
 rw[ap o9]at h;by_cases Bt:re.op=10
 ·rw[be Bt]at h
  match hk:re.kids with
  |[]=>rw[hk]at h;cases h
  |[_]=>rw[hk]at h;cases h
  |yes::no::l=>rw[hk]at h;exact .cond Bt hk (di _ _ _ _ _ h)
 rw[ap Bt]at h;by_cases oh:re.op=11
 ·rw[be oh]at h;by_cases q:bY re.n t i=true
  ·rw[be q]at h;exact .vZ oh q (di _ _ _ _ _ h)
  ·rw[ap q]at h;cases h;exact .zx oh (by simpa using q)
 rw[ap oh]at h;exact .empty cG (di _ _ _ _ _ h)
theorem V4{re:Re}{k:Int}{i:Int}{c:aD}{st:bh} (h:qT F rec most re k nx i c st=some (b,st')):eB t F most (.rep re k nx i c) st b st':=by
 unfold qT at h;by_cases hm:re.mode=2
 ·rw[be hm]at h;cases hf:cF rec (.mk 1 (re.eo 0) 0 0 .nil) i c st with
  |none=>rw[hf]at h;cases h
  |some z =>
   obtain⟨o,s3⟩:=z;rw[hf]at h;simp only at h;obtain⟨b1,x,k1,rfl,k2⟩:=pf hf;have h1:=di _ _ _ _ _ k1;rcases k2 with ⟨e1,rfl⟩|⟨e1,e2,rfl⟩|⟨e1,e,le,d,ld,e2,e3,rfl⟩
   ·simp only at h;obtain⟨rfl,rfl⟩:=Prod.mk.inj (Option.some.inj h);have:=eB.CJ (most:=most) (k:=k) (nx:=nx) hm h1 e1;rwa [<- show (st.C7 x).empty=true from e1]at this
   ·simp only at h;obtain⟨rfl,rfl⟩:=Prod.mk.inj (Option.some.inj h);have:=eB.IS (most:=most) (k:=k) (nx:=nx) hm h1 e1 e2;rwa [<- show (st.C7 x).empty=false from e1]at this
   ·simp only at h;exact .Di hm h1 e1 e2 e3 (di _ _ _ _ _ h)
 rw[ap hm]at h;by_cases hs:st.steps<0\/10000000000000<st.steps
 ·rw[be hs]at h;cases h
 rw[ap hs]at h;simp only at h;have nR:0<=st.steps:=ae;by_cases he:(st.step F).empty=true
 ·rw[be he]at h;cases h;exact .IK hm nR he
 rw[ap he]at h;have he:(st.step F).empty=false:=by simpa using he
 cases hk:re.kids with
 |nil=>rw[hk]at h;cases h
 |cons aP l =>
  rw[hk]at h;simp only at h;by_cases c2:k<re.mn
  ·rw[be c2]at h;exact .IJ hm nR he hk c2 (di _ _ _ _ _ h)
  rw[ap c2]at h;by_cases m1:re.mode=1
  ·rw[be m1]at h;cases hx:rec most (.run nx i c) (st.step F) with
   |none=>rw[hx]at h;cases h
   |some y =>
    obtain⟨b1,s2⟩:=y;rw[hx]at h;have h1:=di _ _ _ _ _ hx;by_cases cM:re.mx=-1\/k<re.mx
    ·cases b1 with
     |true=>simp only[rS]at h;cases h;exact .Fj m1 nR he hk c2 cM h1
     |false=>simp only[rS]at h;rw[be cM]at h;exact .D8 m1 nR he hk c2 cM h1 (di _ _ _ _ _ h)
    ·cases b1 with
     |true=>simp only[rS]at h;cases h;exact .Ar hm nR he hk c2 cM h1
     |false=>simp only[rS]at h;rw[ap cM]at h;cases h;exact .Ar hm nR he hk c2 cM h1
  ·rw[ap m1]at h;by_cases cM:re.mx=-1\/k<re.mx
   ·rw[be cM]at h;cases hx:rec most (.run (.mk 0 aP 0 0 (.mk 2 re k i nx)) i c) (st.step F) with
    |none=>rw[hx]at h;cases h
    |some y =>
     obtain⟨b1,s2⟩:=y;rw[hx]at h;have h1:=di _ _ _ _ _ hx;cases b1 with
     |true=>simp only[rS]at h;cases h;exact .OK hm m1 nR he hk c2 cM h1
     |false=>simp only[rS]at h;exact .PC hm m1 nR he hk c2 cM h1 (di _ _ _ _ _ h)
   ·rw[ap cM]at h;simp only[rS]at h;exact .Ar hm nR he hk c2 cM (di _ _ _ _ _ h)
end conv
theorem NX {t:List Int}{F:Int}:∀(n:Nat) (most:Int) (task:Task) (st:bh) (b:Bool) (st':bh),fV t F n most task st=some (b,st')->eB t F most task.e st b st'
 |0,_,_,_,_,_,h=>by cases h
 |n+1,most,task,st,b,st',h=>by
  have di:=NX (t:=t) (F:=F) n
  replace h:bI t F (fV t F n) most task st=some (b,st'):=h
  cases task with
  |run g i c =>
   simp only[bI]at h;split at h
   ·cases h
   rename_i hi;have h0:0<=i:=ae;have h1:i<=t.length:=ae;cases g with
   |nil =>
    simp only at h;split at h
    ·rename_i hl;obtain⟨rfl,rfl⟩:=Prod.mk.inj (Option.some.inj h);exact .found h0 h1 hl.2 hl.1
    ·cases h
   |mk kind re k f nx =>
    simp only at h;by_cases k1:kind=1
    ·rw[be k1]at h;subst k1;exact .PM h0 h1 (di _ _ _ _ _ h)
    rw[ap k1]at h;by_cases k2:kind=2
    ·rw[be k2]at h;subst k2;by_cases q:re.mn<=k/\i=f
     ·rw[be q]at h;cases h;exact .stay h0 h1 q.1 q.2
     rw[ap q]at h;split at h
     ·cases h
     exact .iter h0 h1 q ae ae (di _ _ _ _ _ h)
    rw[ap k2]at h;by_cases k3:kind=3
    ·rw[be k3]at h;subst k3;split at h
     ·cases h
     exact .save h0 h1 (di _ _ _ _ _ h)
    rw[ap k3]at h;by_cases k4:kind=4
    ·rw[be k4]at h;subst k4;by_cases q:i=f
     ·rw[be q]at h;exact .here h0 h1 q (di _ _ _ _ _ h)
     ·rw[ap q]at h;cases h;exact .gone h0 h1 q
    rw[ap k4]at h;exact .tree k1 k2 k3 k4 h0 h1 (di _ _ _ _ _ h)
  |rep g i c =>
   simp only[bI]at h;split at h
   ·cases h
   cases g with
   |nil=>cases h
   |mk kind re k f nx=>exact V4 di h
  |node g i c =>
   simp only[bI]at h;split at h
   ·cases h
   rename_i hi;cases g with
   |nil=>cases h
   |mk kind re k f nx =>
    simp only at h;by_cases o4:re.op=4
    ·rw[be o4]at h;exact .C5 o4 ae ae (di _ _ _ _ _ h)
    rw[ap o4]at h;split at h
    ·cases h
    split at h
    ·cases h
    rename_i hs;have nR:0<=st.steps:=ae;by_cases he:(st.step F).empty=true
    ·rw[be he]at h;cases h;exact .Dg o4 nR he
    ·rw[ap he]at h;have he:(st.step F).empty=false:=by simpa using he
     exact .node o4 nR he (Ur di he h)
theorem eB.steps {t:List Int}{F most:Int}{task:ETask}{st st':bh}{b:Bool} (h:eB t F most task st b st'):st.steps<=st'.steps:=by
 induction h <;> (try simp only[bh.sub,bh.C7,bh.step]at *) <;> omega
def FA (F F':Int) (st st':bh) (b:Bool) (o:Option (Bool×bh)):Prop :=
 st.steps<=st'.steps/\(st'.empty=true->b=true/\F<st'.steps)/\(st.steps<=F'->(st'.steps<=F'->o=some (b,st'))/\(F'<st'.steps->∃s2,o=some (true,s2)/\s2.empty=true))
def FB {α:Type} (F F':Int) (st st':bh) (r:Option α) (o:Option (Option α×bh)):Prop :=
 st.steps<=st'.steps/\(st'.empty=true->r=none/\F<st'.steps)/\(st.steps<=F'->(st'.steps<=F'->o=some (r,st'))/\(F'<st'.steps->∃s2,o=some (none,s2)/\s2.empty=true))
section fuel
variable {t:List Int}{F F':Int}{rec rec':Int->Task->bh->Option (Bool×bh)}
theorem FA.no {st:bh}{o:Option (Bool×bh)} (he:st.empty=false) (ho:o=some (false,st)):FA F F' st st false o :=
 ⟨ajs _,λh=>(by rw[he]at h;cases h),λhs=>⟨λ_=>ho,λh=>ae⟩⟩
theorem Pu {st s1 st':bh}{b1 b:Bool}{a':Option (Bool×bh)}{k k':bh->Option (Bool×bh)} (h1:FA F F' st s1 b1 a') (hr:rS (some (b1,s1)) k=some (b,st')) (hk:s1.empty=false->k s1=some (b,st')->FA F F' s1 st' b (k' s1)):FA F F' st st' b (rS a' k'):=by
 cases b1 with
 |true =>
  simp only[rS,ai5,ajE]at hr;obtain⟨rfl,rfl⟩:=hr;obtain⟨a1,a2,a3⟩:=h1;refine⟨a1,a2,λh0=>⟨λhs=>by rw[(a3 h0).1 hs];rfl,λhs=>?_⟩⟩;obtain⟨s2,q1,q2⟩:=(a3 h0).2 hs;exact⟨s2,by rw[q1];rfl,q2⟩
 |false =>
  simp only[rS]at hr;have he:s1.empty=false:=by
   cases hx:s1.empty with
   |false=>rfl
   |true=>have:=(h1.2.1 hx).1;cases this
  obtain⟨a1,a2,a3⟩:=h1;obtain⟨b1,b2,b3⟩:=hk he hr;refine⟨ae,b2,λh0=>?_⟩;by_cases ef:s1.steps<=F'
  ·rw[(a3 h0).1 ef];exact b3 ef
  ·obtain⟨s2,q1,q2⟩:=(a3 h0).2 ae;exact⟨λhs=>ae,λ_=>⟨s2,by rw[q1];rfl,q2⟩⟩
def abk {α:Type} (o:Option (Option α×bh)) (k:Option α->bh->Option (Bool×bh)):Option (Bool×bh) :=
 match o with
 |none=>none
 |some (r,s)=>k r s
theorem Nk {α:Type}{st s1 st':bh}{b:Bool}{r:Option α}{o:Option (Option α×bh)}{o2:Option (Bool×bh)}{k':Option α->bh->Option (Bool×bh)} (h1:FB F F' st s1 r o) (ho:o2=abk o k')
  (hem:s1.empty=true->b=true/\st'=s1) (hex:∀s2,s2.empty=true->k' none s2=some (true,s2)) (hk:s1.empty=false->FA F F' s1 st' b (k' r s1)):FA F F' st st' b o2:=by
 obtain⟨a1,a2,a3⟩:=h1;subst ho;unfold abk;by_cases he:s1.empty=true
 ·obtain⟨rfl,rfl⟩:=hem he;refine⟨a1,λ_=>⟨rfl,(a2 he).2⟩,λh0=>⟨λhs=>?_,λhs=>?_⟩⟩
  ·rw[(a3 h0).1 hs];have:=(a2 he).1;rw[this];exact hex _ he
  ·obtain⟨s2,q1,q2⟩:=(a3 h0).2 hs;exact⟨s2,by rw[q1];exact hex _ q2,q2⟩
 ·obtain⟨b1,b2,b3⟩:=hk (by simpa using he);refine⟨ae,b2,λh0=>?_⟩;by_cases ef:s1.steps<=F'
  ·rw[(a3 h0).1 ef];exact b3 ef
  ·obtain⟨s2,q1,q2⟩:=(a3 h0).2 ae;exact⟨λhs=>ae,λ_=>⟨s2,by rw[q1];exact hex _ q2,q2⟩⟩
theorem GA {f f':Int->bh->Option (Option (Int×aD)×bh)} (hf:∀k st o s2,f k st=some (o,s2)->st.empty=false->FB F F' st s2 o (f' k st)):∀(j:Nat) (st s2:bh) (r:Option aD),
  dh f j st=some (r,s2)->st.empty=false->FB F F' st s2 r (dh f' j st)
 |0,st,s2,r,hr,he=>by simp only[dh]at hr;cases hr;exact⟨ajs _,λh=>(by rw[he]at h;cases h),λ_=>⟨λ_=>rfl,λh=>ae⟩⟩
 |j+1,st,s2,r,hr,he=>by
  simp only[dh]at hr;rw[ap (by rw[he];simp)]at hr;have wX:∀(g:Int->bh->Option (Option (Int×aD)×bh)) (s3:bh),s3.empty=true->dh g j s3=some (none,s3):=by
   intro g s3 h3;cases j with
   |zero=>simp only[dh]
   |succ j=>simp only[dh];rw[be h3]
  cases hx:f j st with
  |none=>rw[hx]at hr;cases hr
  |some y =>
   obtain⟨o,s1⟩:=y;rw[hx]at hr;obtain⟨a1,a2,a3⟩:=hf _ _ _ _ hx he;simp only[dh];rw[ap (by rw[he];simp)];cases o with
   |some p =>
    obtain⟨e,d⟩:=p;simp only at hr;cases hr;refine⟨a1,λhh=>?_,λh0=>⟨λhle=>by rw[(a3 h0).1 hle],λaB=>?_⟩⟩
    ·have:=(a2 hh).1;cases this
    ·obtain⟨s3,q1,q2⟩:=(a3 h0).2 aB;exact⟨s3,by rw[q1];exact wX _ _ q2,q2⟩
   |none =>
    simp only at hr;by_cases rh:s1.empty=true
    ·rw[wX _ _ rh]at hr;cases hr;refine⟨a1,λ_=>⟨rfl,(a2 rh).2⟩,λh0=>⟨λhle=>by rw[(a3 h0).1 hle];exact wX _ _ rh,λaB=>?_⟩⟩;obtain⟨s3,q1,q2⟩:=(a3 h0).2 aB;exact⟨s3,by rw[q1];exact wX _ _ q2,q2⟩
    ·obtain⟨b1,b2,b3⟩:=GA hf j s1 s2 r hr (by simpa using rh);refine⟨ae,b2,λh0=>?_⟩;by_cases ef:s1.steps<=F'
     ·rw[(a3 h0).1 ef];exact b3 ef
     ·obtain⟨s3,q1,q2⟩:=(a3 h0).2 ae;exact⟨λhs=>ae,λ_=>⟨s3,by rw[q1];exact wX _ _ q2,q2⟩⟩
variable (h:∀most task st b st',rec most task st=some (b,st')->st.empty=false->FA F F' st st' b (rec' most task st))
include h
theorem zk {g:Goal}{i:Int}{c:aD}{st s2:bh}{o:Option (Int×aD)} (hr:cF rec g i c st=some (o,s2)):FB F F' st s2 o (cF rec' g i c st):=by
 unfold cF at hr;cases hx:rec 1 (.run g i c) ⟨st.steps,false,[],[]⟩ with
 |none=>rw[hx]at hr;cases hr
 |some y =>
  obtain⟨b,x⟩:=y;rw[hx]at hr;simp only at hr;obtain⟨a1,a2,a3⟩:=h _ _ _ _ _ hx rfl;have ck:s2.steps=x.steps/\s2.empty=x.empty:=by
   split at hr
   ·cases hr;exact⟨rfl,rfl⟩
   ·split at hr
    ·cases hr;exact⟨rfl,rfl⟩
    ·cases hr;exact⟨rfl,rfl⟩
    ·cases hr
  refine⟨by rw[ck.1];exact a1,λhe=>?_,λh0=>⟨λhle=>?_,λaB=>?_⟩⟩
  ·rw[ck.2]at he;rw[be he]at hr;cases hr;exact⟨rfl,(a2 he).2⟩
  ·rw[ck.1]at hle;unfold cF;rw[(a3 h0).1 hle];exact hr
  ·rw[ck.1]at aB;obtain⟨s3,q1,q2⟩:=(a3 h0).2 aB;refine⟨{ st with steps:=s3.steps,empty:=s3.empty },?_,q2⟩;unfold cF;rw[q1];simp only;rw[be q2]
theorem Tu {g:Re->Task}{most:Int}:∀(l:List Re) (st st':bh) (b:Bool),po (λk st=>rec most (g k) st) l st=some (b,st')->st.empty=false->FA F F' st st' b (po (λk st=>rec' most (g k) st) l st)
 |[],st,st',b,hr,he=>by simp only[po]at hr ⊢;cases hr;exact FA.no he rfl
 |k::l,st,st',b,hr,he=>by
  simp only[po]at hr ⊢;cases hx:rec most (g k) st with
  |none=>rw[hx]at hr;cases hr
  |some y =>
   obtain⟨b1,s1⟩:=y;rw[hx]at hr;exact Pu (h _ _ _ _ _ hx he) hr λrh hk=>Tu l s1 st' b hk rh
end fuel
section fuel
variable {t:List Int}{F F':Int} (X2:F'<=F)
include X2
theorem PL {st st':bh}{b:Bool}{K K':bh->Option (Bool×bh)} (ZG:st.empty=false) (hr:(if (st.step F).empty=true then some (true,st.step F) else K (st.step F))=some (b,st')) (hk:(st.step F).empty=false->K (st.step F)=some (b,st')->FA F F' (st.step F) st' b (K' (st.step F))) :
  FA F F' st st' b (if (st.step F').empty=true then some (true,st.step F') else K' (st.step F')):=by
 have hs:∀f,(st.step f).steps=st.steps+1:=λ_=>rfl;have hem:∀f,(st.step f).empty=decide (f<st.steps+1):=λf=>by simp [bh.step,ZG]
 by_cases he:(st.step F).empty=true
 ·rw[be he]at hr;cases hr;have aB:F<st.steps+1:=by rw[hem]at he;exact of_decide_eq_true he
  refine⟨by rw[hs];omega,λ_=>⟨rfl,by rw[hs];exact aB⟩,λh0=>⟨λh1=>by rw[hs]at h1;omega,λ_=>⟨st.step F',?_,?_⟩⟩⟩
  ·rw[be];rw[hem,bi ae]
  ·rw[hem,bi ae]
 ·rw[ap he]at hr;have he:(st.step F).empty=false:=by simpa using he
  have iA:¬F<st.steps+1:=by rw[hem]at he;exact of_decide_eq_false he
  obtain⟨b1,b2,b3⟩:=hk he hr;rw[hs]at b1 b3;refine⟨ae,b2,λh0=>?_⟩;by_cases hle:st.steps+1<=F'
  ·have heq:st.step F'=st.step F:=by
    have h1:(st.step F').empty=(st.step F).empty:=by rw[he,hem,ce ae]
    have:st.step F'={ st.step F with empty:=(st.step F').empty }:=rfl;rw[this,h1]
   rw[heq,ap (by rw[he];simp)];exact b3 hle
  ·refine⟨λh1=>ae,λ_=>⟨st.step F',?_,?_⟩⟩
   ·rw[be];rw[hem,bi ae]
   ·rw[hem,bi ae]
variable {rec rec':Int->Task->bh->Option (Bool×bh)} (h:∀most task st b st',rec most task st=some (b,st')->st.empty=false->FA F F' st st' b (rec' most task st))
include h
omit X2 in
theorem UW {most:Int}{re:Re}{next:Goal}{i:Int}{c:aD}{st st':bh}{b:Bool} (hr:dI t rec most re next i c st=some (b,st')) (he:st.empty=false):FA F F' st st' b (dI t rec' most re next i c st):=by
 unfold dI at hr ⊢;have no:∀{b:Bool}{st':bh},some (false,st)=some (b,st')->FA F F' st st' b (some (false,st)):=by intro b st' hh;cases hh;exact FA.no he rfl
 by_cases o1:re.op=1
 ·rw[be o1]at hr ⊢;by_cases q:i<t.length/\E7 re.set (oo t i)=true
  ·rw[be q]at hr ⊢;exact h _ _ _ _ _ hr he
  ·rw[ap q]at hr ⊢;exact no hr
 rw[ap o1]at hr ⊢;by_cases o2:re.op=2
 ·rw[be o2]at hr ⊢;exact h _ _ _ _ _ hr he
 rw[ap o2]at hr ⊢;by_cases o3:re.op=3
 ·rw[be o3]at hr ⊢;exact Tu (g:=λk=>.run (.mk 0 k 0 0 next) i c) h re.kids st st' b hr he
 rw[ap o3]at hr ⊢;by_cases o5:re.op=5
 ·rw[be o5]at hr ⊢;cases hk:re.kids with
  |nil=>rw[hk]at hr;cases hr
  |cons aP l=>rw[hk]at hr;exact h _ _ _ _ _ hr he
 rw[ap o5]at hr ⊢;by_cases o6:re.op=6
 ·rw[be o6]at hr ⊢;simp only at hr ⊢;by_cases q1:(bG c re.n).1<0
  ·rw[be q1]at hr ⊢;exact no hr
  rw[ap q1]at hr ⊢;by_cases q2:(bG c re.n).2<(bG c re.n).1\/(t.length:Int)<(bG c re.n).2
  ·rw[be q2]at hr;cases hr
  rw[ap q2]at hr ⊢;by_cases q3:t.length<i+(bG c re.n).2-(bG c re.n).1
  ·rw[be q3]at hr ⊢;exact no hr
  rw[ap q3]at hr ⊢;by_cases q4:ph t (bG c re.n).1 i ((bG c re.n).2-(bG c re.n).1).toNat=true
  ·rw[be q4]at hr ⊢;exact h _ _ _ _ _ hr he
  ·rw[ap q4]at hr ⊢;exact no hr
 rw[ap o6]at hr ⊢;by_cases o7:re.op=7\/re.op=8
 ·rw[be o7]at hr ⊢;cases hk:re.kids with
  |nil=>rw[hk]at hr;cases hr
  |cons aP l =>
   rw[hk]at hr;simp only at hr ⊢;cases hl:lG rec re.op aP i c st with
   |none=>rw[hl]at hr;cases hr
   |some y =>
    obtain⟨ro,s1⟩:=y;rw[hl]at hr;simp only at hr;have hfb:FB F F' st s1 ro (lG rec' re.op aP i c st):=by
     unfold lG at hl ⊢;by_cases p7:re.op=7
     ·rw[be p7]at hl ⊢;cases hf:cF rec (.mk 0 aP 0 0 .nil) i c st with
      |none=>rw[hf]at hl;cases hl
      |some z =>
       obtain⟨o,s3⟩:=z;rw[hf]at hl;cases hl;obtain⟨a1,a2,a3⟩:=zk h hf;refine⟨a1,λhh=>⟨by rw[(a2 hh).1];rfl,(a2 hh).2⟩,λh0=>⟨λhle=>by rw[(a3 h0).1 hle],λaB=>?_⟩⟩;obtain⟨s4,q1,q2⟩:=(a3 h0).2 aB;exact⟨s4,by rw[q1];rfl,q2⟩
     ·rw[ap p7]at hl ⊢;exact GA (λk st o s2 hf _=>zk h hf) _ _ _ _ hl he
    refine Nk (k':=λr st'=>if st'.empty=true then some (true,st') else if re.neg=true then (match r with|some _=>some (false,st')|none=>rec' most (.run next i c) st') else match r with|some d=>rec' most (.run next i d) st'|none=>some (false,st')) hfb ?_ (λrh=>?_) (λs2 h2=>by simp only;rw[be h2]) (λrh=>?_)
    ·generalize lG rec' re.op aP i c st=z;rcases z with _|⟨r,s⟩ <;> rfl
    ·rw[be rh]at hr;cases hr;exact⟨rfl,rfl⟩
    ·rw[ap (by rw[rh];simp)]at hr;try simp only
     rw[ap (by rw[rh];simp)];by_cases hn:re.neg=true
     ·rw[be hn]at hr ⊢;cases ro with
      |some d=>simp only at hr ⊢;cases hr;exact FA.no rh rfl
      |none=>exact h _ _ _ _ _ hr rh
     ·rw[ap hn]at hr ⊢;cases ro with
      |some d=>exact h _ _ _ _ _ hr rh
      |none=>simp only at hr ⊢;cases hr;exact FA.no rh rfl
 rw[ap o7]at hr ⊢;by_cases o9:re.op=9
 ·rw[be o9]at hr ⊢;cases hk:re.kids with
  |nil=>rw[hk]at hr;cases hr
  |cons aP l =>
   rw[hk]at hr;simp only at hr ⊢;cases hf:cF rec (.mk 0 aP 0 0 .nil) i c st with
   |none=>rw[hf]at hr;cases hr
   |some y =>
    obtain⟨o,s1⟩:=y;rw[hf]at hr;simp only at hr;refine Nk (k':=λr st'=>if st'.empty=true then some (true,st') else match r with|some (e,d)=>rec' most (.run next e d) st'|none=>some (false,st')) (zk h hf) ?_ (λrh=>?_) (λs2 h2=>by simp only;rw[be h2]) (λrh=>?_)
    ·generalize cF rec' (.mk 0 aP 0 0 .nil) i c st=z;rcases z with _|⟨r,s⟩ <;> rfl
    ·rw[be rh]at hr;cases hr;exact⟨rfl,rfl⟩
    ·rw[ap (by rw[rh];simp)]at hr;try simp only
     rw[ap (by rw[rh];simp)];cases o with
     |some p=>exact h _ _ _ _ _ hr rh
     |none=>simp only at hr ⊢;cases hr;exact FA.no rh rfl
 rw[ap o9]at hr ⊢;by_cases Bt:re.op=10
 ·rw[be Bt]at hr ⊢
  match hk:re.kids with
  |[]=>rw[hk]at hr;cases hr
  |[_]=>rw[hk]at hr;cases hr
  |yes::no'::l=>rw[hk]at hr;exact h _ _ _ _ _ hr he
 rw[ap Bt]at hr ⊢;by_cases oh:re.op=11
 ·rw[be oh]at hr ⊢;by_cases q:bY re.n t i=true
  ·rw[be q]at hr ⊢;exact h _ _ _ _ _ hr he
  ·rw[ap q]at hr ⊢;exact no hr
 rw[ap oh]at hr ⊢;exact h _ _ _ _ _ hr he
theorem Zg {most:Int}{re:Re}{k:Int}{next:Goal}{i:Int}{c:aD}{st st':bh}{b:Bool} (hr:qT F rec most re k next i c st=some (b,st')) (he:st.empty=false):FA F F' st st' b (qT F' rec' most re k next i c st):=by
 unfold qT at hr ⊢;by_cases m2:re.mode=2
 ·rw[be m2]at hr ⊢;cases hf:cF rec (.mk 1 (re.eo 0) 0 0 .nil) i c st with
  |none=>rw[hf]at hr;cases hr
  |some y =>
   obtain⟨o,s1⟩:=y;rw[hf]at hr;simp only at hr;have hfb:=zk h hf;refine Nk (k':=λr st'=>match r with|some (e,d)=>rec' most (.run next e d) st'|none=>some (st'.empty,st')) hfb ?_ (λrh=>?_) (λs2 h2=>by simp only;rw[h2]) (λrh=>?_)
   ·generalize cF rec' (.mk 1 (re.eo 0) 0 0 .nil) i c st=z;rcases z with _|⟨r,s⟩ <;> rfl
   ·have:=(hfb.2.1 rh).1;subst this;simp only at hr;cases hr;exact⟨rh,rfl⟩
   ·cases o with
    |some p=>exact h _ _ _ _ _ hr rh
    |none =>
     simp only at hr ⊢;cases hr;rw[rh];exact FA.no rh rfl
 rw[ap m2]at hr ⊢;by_cases c0:st.steps<0\/10000000000000<st.steps
 ·rw[be c0]at hr;cases hr
 rw[ap c0]at hr ⊢;simp only at hr ⊢;refine PL X2 (K:=λs1=>match re.kids with
   |[]=>none
   |aP::_=>if k<re.mn then rec most (.run (.mk 0 aP 0 0 (.mk 2 re k i next)) i c) s1
    else if re.mode=1 then rS (rec most (.run next i c) s1) (λs=>if re.mx=-1\/k<re.mx then rec most (.run (.mk 0 aP 0 0 (.mk 2 re k i next)) i c) s else some (false,s))
    else rS (if re.mx=-1\/k<re.mx then rec most (.run (.mk 0 aP 0 0 (.mk 2 re k i next)) i c) s1 else some (false,s1)) (λs=>rec most (.run next i c) s))
  (K':=λs1=>match re.kids with
   |[]=>none
   |aP::_=>if k<re.mn then rec' most (.run (.mk 0 aP 0 0 (.mk 2 re k i next)) i c) s1
    else if re.mode=1 then rS (rec' most (.run next i c) s1) (λs=>if re.mx=-1\/k<re.mx then rec' most (.run (.mk 0 aP 0 0 (.mk 2 re k i next)) i c) s else some (false,s))
    else rS (if re.mx=-1\/k<re.mx then rec' most (.run (.mk 0 aP 0 0 (.mk 2 re k i next)) i c) s1 else some (false,s1)) (λs=>rec' most (.run next i c) s)) he hr (λrh hk=>?_)
 generalize st.step F=s1 at *;cases UB:re.kids with
 |nil=>rw[UB]at hk;cases hk
 |cons aP l =>
  rw[UB]at hk;simp only at hk ⊢;by_cases c2:k<re.mn
  ·rw[be c2]at hk ⊢;exact h _ _ _ _ _ hk rh
  rw[ap c2]at hk ⊢;by_cases m1:re.mode=1
  ·rw[be m1]at hk ⊢;cases hx:rec most (.run next i c) s1 with
   |none=>rw[hx]at hk;cases hk
   |some y =>
    obtain⟨b1,s2⟩:=y;rw[hx]at hk;refine Pu (h _ _ _ _ _ hx rh) hk λKw Am=>?_;by_cases cM:re.mx=-1\/k<re.mx
    ·rw[be cM]at Am ⊢;exact h _ _ _ _ _ Am Kw
    ·rw[ap cM]at Am ⊢;cases Am;exact FA.no Kw rfl
  ·rw[ap m1]at hk ⊢;by_cases cM:re.mx=-1\/k<re.mx
   ·rw[be cM]at hk ⊢;cases hx:rec most (.run (.mk 0 aP 0 0 (.mk 2 re k i next)) i c) s1 with
    |none=>rw[hx]at hk;cases hk
    |some y =>
     obtain⟨b1,s2⟩:=y;rw[hx]at hk;exact Pu (h _ _ _ _ _ hx rh) hk λKw Am=>h _ _ _ _ _ Am Kw
   ·rw[ap cM]at hk ⊢;exact Pu (FA.no (F:=F) (F':=F') rh rfl) hk λKw Am=>h _ _ _ _ _ Am Kw
end fuel
variable{re:Re}{ai:Int}{top:Int}
theorem Er {t:List Int}{F F':Int} (X2:F'<=F):∀(n:Nat) (most:Int) (task:Task) (st:bh) (b:Bool) (st':bh),fV t F n most task st=some (b,st')->st.empty=false->FA F F' st st' b (fV t F' n most task st)
 |0,_,_,_,_,_,hr,_=>by cases hr
 |n+1,most,task,st,b,st',hr,he=>by
  have ih:=Er (t:=t) X2 n;have hr:bI t F (fV t F n) most task st=some (b,st'):=hr;show FA F F' st st' b (bI t F' (fV t F' n) most task st);cases task with
  |run g i c =>
   simp only[bI]at hr ⊢;by_cases c0:i<0\/(t.length:Int)<i
   ·rw[be c0]at hr;cases hr
   rw[ap c0]at hr ⊢;cases g with
   |nil =>
    simp only at hr ⊢;split at hr
    ·rename_i hc;cases hr;exact⟨ajs _,λhh=>(by have hh:st.empty=true:=hh;rw[he]at hh;cases hh),λh0=>⟨λ_=>by rw[be hc],λhl=>by have hl:F'<st.steps:=hl;omega⟩⟩
    ·cases hr
   |mk kind re k fH next =>
    simp only at hr ⊢;by_cases k1:kind=1
    ·rw[be k1]at hr ⊢;exact ih _ _ _ _ _ hr he
    rw[ap k1]at hr ⊢;by_cases k2:kind=2
    ·rw[be k2]at hr ⊢;by_cases q:re.mn<=k/\i=fH
     ·rw[be q]at hr ⊢;cases hr;exact FA.no he rfl
     ·rw[ap q]at hr ⊢;by_cases q2:k<0\/10000000000000<k
      ·rw[be q2]at hr;cases hr
      ·rw[ap q2]at hr ⊢;exact ih _ _ _ _ _ hr he
    rw[ap k2]at hr ⊢;by_cases k3:kind=3
    ·rw[be k3]at hr ⊢;by_cases q:1000000000<c.length
     ·rw[be q]at hr;cases hr
     ·rw[ap q]at hr ⊢;exact ih _ _ _ _ _ hr he
    rw[ap k3]at hr ⊢;by_cases k4:kind=4
    ·rw[be k4]at hr ⊢;by_cases q:i=fH
     ·rw[be q]at hr ⊢;exact ih _ _ _ _ _ hr he
     ·rw[ap q]at hr ⊢;cases hr;exact FA.no he rfl
    rw[ap k4]at hr ⊢;exact ih _ _ _ _ _ hr he
  |rep g i c =>
   simp only[bI]at hr ⊢;by_cases c0:i<0\/(t.length:Int)<i
   ·rw[be c0]at hr;cases hr
   rw[ap c0]at hr ⊢;cases g with
   |nil=>cases hr
   |mk kind re k fH next=>exact Zg X2 ih hr he
  |node g i c =>
   simp only[bI]at hr ⊢;by_cases c0:i<0\/(t.length:Int)<i
   ·rw[be c0]at hr;cases hr
   rw[ap c0]at hr ⊢;cases g with
   |nil=>cases hr
   |mk kind re k fH next =>
    simp only at hr ⊢;by_cases o4:re.op=4
    ·rw[be o4]at hr ⊢;exact ih _ _ _ _ _ hr he
    rw[ap o4]at hr ⊢;by_cases q1:1000000000<re.set.length\/1000000000<re.kids.length\/1000000000<c.length
    ·rw[be q1]at hr;cases hr
    rw[ap q1]at hr ⊢;by_cases q2:st.steps<0\/10000000000000<st.steps
    ·rw[be q2]at hr;cases hr
    rw[ap q2]at hr ⊢;exact PL X2 (K:=λs=>dI t (fV t F n) most re next i c s) (K':=λs=>dI t (fV t F' n) most re next i c s) he hr λrh hk=>UW ih hk rh
def uQ (re:Re):Prop:=re.op=0\/re.op=1\/re.op=11
theorem GX (re:Re) (hs:re.every tH=true) (hl:uQ re) (f:Int):aM prog 77 [kj re,i64 f] (.fu ((re.code f).map kL.cells)):=by
 obtain⟨ef,fU⟩:=(Re.av re).1 hs;obtain⟨BK,An,V3,hk0⟩:=iI.1 ef;rcases hl with o|o|o
 ·have hc:re.code f=[]:=by rw[Re.oz,bd,bd,bd,bd,bd,bd]
  rw[hc];refine Iv func77 rfl ntmps77 results77 rfl 0 3063 aj aj ?_;simp only[zI,simprocAttr,aq re,iD,bD,o,AD,Ek,ak,ak.go];all_goals exact ed
 ·have hc:re.code f=[⟨1,0,0,0,re.set⟩]:=by rw[Re.oz,be o]
  rw[hc];refine Iv func77 rfl ntmps77 results77 rfl 0 3063 aj aj ?_;simp only[zI,simprocAttr,aq re,iD,bD,o,AD,Ek,ak,ak.go];all_goals exact ed
 ·have hc:re.code f=[⟨5,0,0,re.n,[]⟩]:=by rw[Re.oz,bd,be o]
  rw[hc];refine Iv func77 rfl ntmps77 results77 rfl 0 3063 aj aj ?_;simp only[zI,simprocAttr,aq re,iD,bD,o,AD,Ek,ak,ak.go];all_goals exact ed
theorem Ty (re:Re) (hs:re.every tH=true) (hz:re.kK<=8500) (o:re.op=2) (hc:∀k∈re.kids,uK k) (f:Int) (h0:0<=f) (h1:f<=1000000000000000000-100000000*re.size):lL prog 77 [kj re,i64 f] 5 ((re.code f).map kL.cells):=by
 obtain⟨ef,fU⟩:=(Re.av re).1 hs;obtain⟨q1,q2,q3,_⟩:=fB.1 (g7.1 (iI.1 ef).1).1;have Ua:=Ad hs ae ⟨ae,ae⟩;have uu:∀k∈re.kids,∀f,((k.code f).length:Int)=k.kK:=λk hk=>pH k (fU k hk) (Ua.2 k hk);have LV:re.code f=Re.ek re.kids f:=by rw[Re.oz,bd,bd,be o]
 have iy:∀i,((Re.ek (re.kids.take i) f).length:Int)<=10000000:=λi=>by rw[Cc (λk hk=>uu k (ajT hk)) f];have:=(si (l:=re.kids.take i) (λk hk=>jr k (nD (fU k (ajT hk))))).2;rw[aj3]at this;omega
 rw[LV];unfold lL;refine qV func77 rfl ntmps77 results77 rfl 0 3063 aj aj ?_;simp only[zI,simprocAttr,aq re,iD,bD,o];refine ay (λn e s=>∃(i g:Nat),n=re.kids.length-i/\i<=re.kids.length/\e 1=i64 f/\e 2=.rf 0 0 0 0/\e 5=.so 1 g 0 (Re.ek (re.kids.take i) f).length/\e 6=i64 i/\s=[aI re,jo g (Re.ek (re.kids.take i) f)])
  ⟨_,_,_,.MX (fQ 5 5 rfl),0,0,rfl,ae,rfl,rfl,rfl,rfl,by simp [aI,Re.ah re,iD,bD,o,jo,Re.ek]⟩ ?_
 rintro n e s ⟨i,g,rfl,hi,uV,h2,h5,h6,rfl⟩;rcases ajr i re.kids.length with aB|iA
 ·obtain⟨k,hk⟩:∃k,re.kids[i]?=some k:=bZ aB;have hm:=ai4 hk;have aH:(i:Int)<re.kids.length:=ae;have hb:=iy i;have Jf:k.size<re.size:=Re.bN hm;have eD:=hc k hm (f+(Re.ek (re.kids.take i) f).length) ae ae;have Ye:=uu k hm (f+(Re.ek (re.kids.take i) f).length);have ahL:=Ua.2 k hm;have DC:Re.ek (re.kids.take (i+1)) f=Re.ek (re.kids.take i) f++k.code (f+(Re.ek (re.kids.take i) f).length):=by rw[bj hk,Re.zO]
  generalize k.code (f+(Re.ek (re.kids.take i) f).length)=aP at *;generalize Re.ek (re.kids.take i) f=out at *;have w1:IntKind.i64.wrap (f+(out.length:Int))=f+(out.length:Int):=bF _ ae;simp only[i64]at eD;simp only[zI,simprocAttr,aI,Re.ah re,aiZ,ai2,iD,bD,uV,h2,h5,h6,aH,jo,hk,w1];refine bp eD (by simp [ak,ak.go,aq]) eX ?_;simp only[zI,simprocAttr,aI,Re.ah re,aiZ,ai2,iD,bD,uV,h2,h5,h6,jo];refine⟨my _,⟨aj,ae⟩,re.kids.length-(i+1),_,_,ae,bJ.refl,i+1,g+1,rfl,ae,?_,?_,?_,?_,?_⟩ <;> (try simp only[zU,Nat.reduceBEq,Nat.reduceShiftRight,Nat.reduceMod,Nat.reduceEqDiff,reduceIte])
  ·exact uV
  ·exact h2
  ·rw[DC];simp
  ·rw[bF _ ae];rfl
  ·rw[px _ _ (ajc _),DC];simp [aI,jo,Re.ah re,iD,bD]
 ·have dY:i=re.kids.length:=by omega
  subst dY;have aH:¬(re.kids.length:Int)<re.kids.length:=ae;rw[ajt]at h5;rw[ajt];simp only[zI,simprocAttr,aI,Re.ah re,aiZ,ai2,iD,bD,uV,h2,h5,h6,aH,jo,tY];exact nO (id:=1) aN aN aj
theorem Um (re k:Re) (hs:re.every tH=true) (hz:re.kK<=8500) (o:re.op=5) (hk:re.kids=[k]) (hc:uK k) (f:Int) (h0:0<=f) (h1:f<=1000000000000000000-100000000*re.size):lL prog 77 [kj re,i64 f] 5 ((re.code f).map kL.cells):=by
 obtain⟨ef,fU⟩:=(Re.av re).1 hs;obtain⟨q1,q2,q3,q4,q5,q6,q7,q8,q9,ji⟩:=fB.1 (g7.1 (iI.1 ef).1).1;have hm:k∈re.kids:=by rw[hk];simp
 have Ua:=(Ad hs ae ⟨ae,ae⟩).2 k hm;have uu:=pH k (fU k hm) Ua (f+1);have vV:re.kids[0]?=some k:=by rw[hk];rfl
 have dZ:(0:Int)<(re.kids.length:Int):=by rw[hk];simp
 have Jf:k.size<re.size:=Re.bN hm;have eD:=hc (f+1) ae ae;have LV:re.code f=HX (2*re.n-2)::(k.code (f+1)++[HX (2*re.n-1)]):=by rw[Re.oz,bd,bd,bd,bd,be o,hk];rfl
 rw[LV];generalize k.code (f+1)=aP at *;have w1:IntKind.i64.wrap (f+1)=f+1:=bF _ ae;have w2:IntKind.i64.wrap (2*re.n)=2*re.n:=bF _ ae;have w3:IntKind.i64.wrap (2*re.n-2)=2*re.n-2:=bF _ ae;have w4:IntKind.i64.wrap (2*re.n-1)=2*re.n-1:=bF _ ae;simp only[i64]at eD;generalize hR:List.map kL.cells (HX (2*re.n-2)::(aP++[HX (2*re.n-1)]))=R;unfold lL;refine qV func77 rfl ntmps77 results77 rfl 0 3063 aj aj ?_;simp only[zI,simprocAttr,aq re,iD,bD,o];refine aX (fQ 5 5 rfl) ?_;refine aA mix [] [(7,[1],[1]),(15,[1],[1])] aN ?_;simp only[zI,simprocAttr,aq re,iD,bD,o,vV,dZ,w1,w2,w3];refine⟨rfl,λe he=>by rw[List.mem_singleton.1 he];rfl,?_⟩;refine bR eD (by simp [ak,ak.go,aq]) eX ?_;simp only[zI,simprocAttr,aq re,iD,bD,o,w2,w4];refine⟨rfl,my _,ae,λe he=>by rw[List.mem_singleton.1 he];rfl,⟨ae,ae⟩,?_⟩;simp only[zI,simprocAttr,aq re,iD,bD,o,w2,w4,tY];refine nO (id:=1) aN ?_ ?_
 ·rw[ajb cG,<- hR];simp [HX,kL.cells,iD]
 ·rw[<- hR];simp;omega
theorem TL (re k k2:Re) (l:List Re) (hs:re.every tH=true) (hz:re.kK<=8500) (o:re.op=3) (hk:re.kids=k::k2::l) (hc:uK k) (uz:uK k2) (hc3:l≠[]->uK (rO (k2::l))) (f:Int) (h0:0<=f) (h1:f<=1000000000000000000-100000000*re.size):lL prog 77 [kj re,i64 f] 5 ((re.code f).map kL.cells):=by
 obtain⟨ef,fU⟩:=(Re.av re).1 hs;obtain⟨q1,q2,q3,q4,q5,q6,q7,q8,q9,ji⟩:=fB.1 (g7.1 (iI.1 ef).1).1;have hm:k∈re.kids:=by rw[hk];simp
 have Jo:k2∈re.kids:=by rw[hk];simp
 have Ua:=Ad hs ae ⟨ae,ae⟩;have uu:=pH k (fU k hm) (Ua.2 k hm) (f+1);have agw:=Ua.2 k hm;have aht:=Ua.2 k2 Jo;have vV:re.kids[0]?=some k:=by rw[hk];rfl
 have Wi:re.kids[1]?=some k2:=by rw[hk];rfl
 have dZ:(0:Int)<(re.kids.length:Int):=by rw[hk];simp;omega
 have VR:(1:Int)<(re.kids.length:Int):=by rw[hk];simp;omega
 have Jf:k.size<re.size:=Re.bN hm;have ah5:k2.size<re.size:=Re.bN Jo;have eD:=hc (f+1) ae ae;have hlen:=pH re hs ae f;have LV:re.code f=Re.eY (k::k2::l) f:=by rw[Re.oz,bd,bd,bd,be o,hk]
 have vO:Re.eY (k::k2::l) f=zq 0 (f+1) (f+(k.code (f+1)).length+2)::(k.code (f+1)++Lr (f+(k.code (f+1)).length+2+(Re.eY (k2::l) (f+(k.code (f+1)).length+2)).length)::Re.eY (k2::l) (f+(k.code (f+1)).length+2)):=by rw[Re.eY]
 rw[LV,vO]at hlen ⊢;generalize k.code (f+1)=fst at *;obtain⟨rest,aa0,hrv,Qt,hrz,Cv⟩:∃rest:Re,rest.code (f+fst.length+2)=Re.eY (k2::l) (f+fst.length+2)/\(l=[]->rest=k2)/\(l≠[]->rest=rO (k2::l))/\((Re.eY (k2::l) (f+fst.length+2)).length:Int)<=9000/\aM prog 77 [kj rest,i64 (f+fst.length+2)] (.d (.sl ((Re.eY (k2::l) (f+fst.length+2)).map kL.cells))):=by
  have hb:((Re.eY (k2::l) (f+fst.length+2)).length:Int)<=9000:=by simp only[ai8,ai6]at hlen;omega
  by_cases hl:l=[]
  ·have e:k2.code (f+fst.length+2)=Re.eY (k2::l) (f+fst.length+2):=by rw[hl,Re.eY]
   refine⟨k2,e,λ_=>rfl,λh=>absurd hl h,hb,?_⟩;rw[<- e];exact uz _ ae ae
  ·have e:(rO (k2::l)).code (f+fst.length+2)=Re.eY (k2::l) (f+fst.length+2):=by rw[Re.oz];rfl
   refine⟨rO (k2::l),e,λh=>absurd h hl,λ_=>rfl,hb,?_⟩;rw[<- e];have fY:(rO (k2::l)).size<re.size:=by
    have e1:(rO (k2::l)).size=1+Re.bT (k2::l):=Re.size_eq _;have e2:re.size=1+Re.bT (k::k2::l):=by rw[<- hk];exact Re.size_eq _
    have:=k.size_pos;rw[e1,e2];simp only[Re.bT];omega
   exact hc3 hl _ ae ae
 have w1:IntKind.i64.wrap (f+1)=f+1:=bF _ ae;have w2:IntKind.i64.wrap (f+(fst.length:Int))=f+fst.length:=bF _ ae;have w3:IntKind.i64.wrap (f+(fst.length:Int)+2)=f+fst.length+2:=bF _ ae;clear aa0 hlen LV vO;generalize Re.eY (k2::l) (f+fst.length+2)=snd at *;have w4:IntKind.i64.wrap (f+(fst.length:Int)+2+(snd.length:Int))=f+fst.length+2+snd.length:=bF _ ae;generalize hR:List.map kL.cells (zq 0 (f+1) (f+fst.length+2)::(fst++Lr (f+fst.length+2+snd.length)::snd))=R;simp only[i64]at eD Cv;unfold lL;by_cases hl:l=[]
 ·have ES:¬(2:Int)<(re.kids.length:Int):=by rw[hk,hl];simp
  rw[hrv hl,aq k2]at Cv;simp only[iD,bD]at Cv;refine qV func77 rfl ntmps77 results77 rfl 0 3063 aj aj ?_;simp only[zI,simprocAttr,aq re,iD,bD,o,vV,Wi,dZ,VR,w1];refine bp eD (by simp [ak,ak.go,aq]) eX ?_;simp only[zI,simprocAttr,aq re,aq k2,Re.ah k2,iD,bD,o,vV,Wi,VR,w1,w2,w3,ES,gt_iff_lt];refine bO Cv ?_;simp only[zI,simprocAttr,aq re,iD,bD,o,w1,w2,w3,w4];refine⟨λe he=>by rw[List.mem_singleton.1 he];rfl,λe he=>by (cases he),my _,ae,λe he=>by rw[List.mem_singleton.1 he];rfl,⟨ae,ae⟩,my _,⟨cG,ae⟩,?_⟩;simp only[zX,simprocAttr,tY];refine nO (id:=2) aN ?_ ?_
  ·rw[<- hR];rw[ajb (i:=1+fst.length) cG,ajb cG];simp [zq,Lr,kL.cells,iD]
  ·rw[<- hR];simp;omega
 ·have ES:(2:Int)<(re.kids.length:Int):=by rw[hk];have:0<l.length:=List.length_pos_iff.2 hl;simp;omega
  rw[Qt hl]at Cv;have hdr:List.take ((re.kids.length:Int)-1).toNat (List.drop 1 (re.kids.map Re.cells))=(k2::l).map Re.cells:=by rw[hk,ajb aj];rfl
  have halt:kj (rO (k2::l))=.ag [.d (iD 3),.d (.sl []),.d (.sl ((k2::l).map Re.cells)),.d (iD 0),.d (iD 0),.d (iD 0),.d (iD 0),.d (bD false)]:=by rw[aq];rfl
  rw[halt,<- hdr]at Cv;simp only[iD,bD]at Cv;refine qV func77 rfl ntmps77 results77 rfl 0 3063 aj aj ?_;simp only[zI,simprocAttr,aq re,iD,bD,o,vV,Wi,dZ,VR,w1];refine bp eD (by simp [ak,ak.go,aq]) eX ?_;simp only[zI,simprocAttr,aq re,aq k2,Re.ah k2,iD,bD,o,vV,Wi,VR,w1,w2,w3,ES,gt_iff_lt];refine⟨⟨ae,ajs _⟩,λe he=>by obtain⟨x,_,rfl⟩:=List.mem_map.1 he;exact x.fW,?_⟩;refine bL [] aN ?_;refine bO Cv ?_;simp only[bA];simp only[zI,simprocAttr,aq re,iD,bD,o,w1,w2,w3,w4];refine⟨λe he=>by rw[List.mem_singleton.1 he];rfl,λe he=>by (cases he),my _,ae,λe he=>by rw[List.mem_singleton.1 he];rfl,⟨ae,ae⟩,my _,⟨cG,ae⟩,?_⟩;simp only[zX,simprocAttr,tY];refine nO (id:=2) aN ?_ ?_
  ·rw[<- hR];rw[ajb (i:=1+fst.length) cG,ajb cG];simp [zq,Lr,kL.cells,iD]
  ·rw[<- hR];simp;omega
theorem aM.Ix {P:Program}{f:FuncId}{args:List V}{l:List (List D)} (h:aM P f args (.fu l)):aM P f args (.d (.sl l)):=by
 refine⟨h.1,λσ w vals hI hl hv=>(h.2 σ w vals hI hl hv).mono λe w' ⟨u,v,σ',s',h1,h2,h3,h4,h5,h6⟩=>?_⟩;subst h5 h6;cases h4 with|fu hx=>?_
 exact⟨_,_,σ',[],h1,h2,h3,.d hx,rfl,rfl⟩
theorem XX (hs:re.every tH=true) (h:re.kK<=8500) (ho:¬uQ re):Re.gx re.kids<=8500:=by
 obtain⟨ef,fU⟩:=(Re.av re).1 hs;obtain⟨hc,An,V3,h0⟩:=iI.1 ef;obtain⟨hb,SN⟩:=g7.1 hc;obtain⟨q1,q2,q3,q4,q5,q6,q7,q8,q9,ji⟩:=fB.1 hb;have hz:=(si (l:=re.kids) (λk hk=>jr k (nD (fU k hk)))).1;have hu:=I5 (re:=re) ae;unfold uQ at ho;generalize Re.gx re.kids=z at *;rw[bd]at hu;by_cases o3:re.op=3
 ·rw[be o3]at hu;have:=q2 o3;omega
 rw[ap o3]at hu;by_cases o5:re.op=5
 ·rw[be o5]at hu;omega
 rw[ap o5]at hu;by_cases o4:re.op=4
 ·rw[be o4]at hu;by_cases om:re.mx=-1
  ·rw[be om]at hu;have:1*z<=(re.mn+1)*z:=ajG ae ae;omega
  ·rw[ap om]at hu;have hm:=(SN o4).resolve_left om;have:1*z<=re.mx*z:=ajG ae ae;omega
 ·rw[ap o4]at hu;omega
theorem SX (hs:re.every tH=true) (h:re.kK<=8500) (ho:¬uQ re):∀k∈re.kids,k.kK<=8500:=λk hk =>
 Int.le_trans (EC (λx hx=>(jr x (nD (((Re.av re).1 hs).2 x hx))).1) hk) (XX hs h ho)
theorem TG {k k2:Re}{l:List Re} (hs:re.every tH=true) (hz:re.kK<=8500) (o:re.op=3) (hk:re.kids=k::k2::l) (dP:l≠[]):(rO (k2::l)).every tH=true/\(rO (k2::l)).kK<=8500/\(rO (k2::l)).size<=re.size-1:=by
 obtain⟨ef,fU⟩:=(Re.av re).1 hs;obtain⟨q1,q2,q3,q4,q5,q6,q7,q8,q9,ji⟩:=fB.1 (g7.1 (iI.1 ef).1).1;have hl:1<=l.length:=by cases l with|nil=>exact absurd rfl dP|cons a l=>simp
 have Am:∀x∈k2::l,x∈re.kids:=λx hx=>by rw[hk];exact List.mem_cons_of_mem _ hx
 have hr:(rO (k2::l)).every tH=true:=by
  have e0:(rO (k2::l)).op=3:=rfl;have e1:(rO (k2::l)).mn=0:=rfl;have e2:(rO (k2::l)).mx=0:=rfl;have e3:(rO (k2::l)).n=0:=rfl;have e4:(rO (k2::l)).kids=k2::l:=rfl;have e5:(rO (k2::l)).set=[]:=rfl;rw[hk]at q3;refine(Re.av _).2 ⟨iI.2 ⟨g7.2 ⟨fB.2 ?_,?_⟩,?_⟩,λx hx=>fU x (Am x hx)⟩ <;> rw[e0] <;> simp only[e1,e2,e3,e4,e5]
  ·simp only[ai8]at q3 ⊢;exact⟨λh=>ae,λ_=>ae,ae,Nat.zero_le _,ae,ae,ae,ae,ae,aJ,ae,ae⟩
  ·omega
  ·exact⟨aJ,λh=>absurd h aJ,λh=>absurd h aJ⟩
 have hu:=I5 (re:=re) ae;rw[o,bd,be rfl,hk]at hu;have hk0:=(jr k (nD (fU k (by rw[hk];simp)))).1;refine⟨hr,?_,?_⟩
 ·have:(rO (k2::l)).kK=min (Re.gx (k2::l)+2*((k2::l).length:Int)-2) 10000:=by rw[Re.Ir];rfl
  rw[this];simp only[Re.gx,ai8]at hu ⊢
  push_cast at hu ⊢
  omega
 ·have e1:(rO (k2::l)).size=1+Re.bT (k2::l):=Re.size_eq _;have e2:re.size=1+Re.bT (k::k2::l):=by rw[<- hk];exact Re.size_eq _
  rw[e1,e2];have:=k.size_pos;simp only[Re.bT];omega
theorem Sm (re:Re) (o:re.op=4) (f:Int) (hrep:lL prog 97 [kj re,i64 f] 5 ((re.code f).map kL.cells)):lL prog 77 [kj re,i64 f] 5 ((re.code f).map kL.cells):=by generalize List.map kL.cells (re.code f)=R at *;simp only[aq re,i64,iD,bD,o]at hrep;show az _ _ _ _ _;refine qV func77 rfl ntmps77 results77 rfl 0 3063 aj aj ?_;simp only[zI,simprocAttr,aq re,iD,bD,o];refine lL.call hrep rfl rfl λg=>?_;simp only[zI,simprocAttr,aq re,iD,bD,o,tY];exact nO (id:=1) aN aN rfl
theorem Dp:∀(n:Nat) (re:Re),re.size<=n->re.every tH=true->re.kK<=8500->uK re/\(¬uQ re->∀f:Int,0<=f->f<=1000000000000000000-100000000*re.size->lL prog 77 [kj re,i64 f] 5 ((re.code f).map kL.cells))
 |0,re,h,_,_=>by have:=re.size_pos;omega
 |n+1,re,h,hs,hz=>by
  obtain⟨ef,fU⟩:=(Re.av re).1 hs;obtain⟨BK,An,V3,hk0⟩:=iI.1 ef;obtain⟨q1,q2,q3,q4,q5,q6,q7,q8,q9,ji⟩:=fB.1 (g7.1 BK).1;by_cases hl:uQ re
  ·refine⟨λf _ _=>?_,λh=>absurd hl h⟩;exact aM.Ix (GX re hs hl f)
  have Ln:re.op=2\/re.op=3\/re.op=4\/re.op=5:=by unfold uQ at hl;omega
  have VZ:=SX hs hz hl;have Cl:∀k∈re.kids,uK k:=λk hk=>(Dp n k (by have:=Re.bN hk;omega) (fU k hk) (VZ k hk)).1;have own:∀f:Int,0<=f->f<=1000000000000000000-100000000*re.size->lL prog 77 [kj re,i64 f] 5 ((re.code f).map kL.cells):=by
   intro f h0 h1;rcases Ln with o|o|o|o
   ·exact Ty re hs hz o Cl f h0 h1
   ·have h2:=q2 o;obtain⟨k,k2,l,hk⟩:∃k k2 l,re.kids=k::k2::l:=by
     match hm:re.kids with
     |[]=>rw[hm]at h2;simp at h2
     |[_]=>rw[hm]at h2;simp at h2
     |k::k2::l=>exact⟨k,k2,l,rfl⟩
    refine TL re k k2 l hs hz o hk (Cl k (by rw[hk];simp)) (Cl k2 (by rw[hk];simp)) (λdP=>?_) f h0 h1;obtain⟨a1,a2,a3⟩:=TG hs hz o hk dP;exact(Dp n (rO (k2::l)) ae a1 a2).1
   ·obtain⟨k,hk⟩:=List.length_eq_one_iff.1 (V3 (.inl o));have hrep:=Wf re k hs hz o hk (Cl k (by rw[hk];simp)) f h0 h1;exact Sm re o f hrep
   ·obtain⟨k,hk⟩:=List.length_eq_one_iff.1 (V3 (.inr o));exact Um re k hs hz o hk (Cl k (by rw[hk];simp)) f h0 h1
  exact⟨λf h0 h1=>(own f h0 h1).pure,λ_=>own⟩
theorem Kd (hc:ai<=9) (hn:bS re ai top=true) (hk:re.kids.length<=1000):uM re=true:=by
 obtain⟨⟨a1,a2,a3,a4⟩,b,c,d,e⟩:=fA.1 hn;have gD:re.set.length<=64:=by
  split at b
  ·unfold iZ at b;rw[aji]at b;exact of_decide_eq_true b.1
  ·omega
 have hnn:0<=re.n/\re.n<=9:=by
  split at d
  ·omega
  ·split at d <;> omega
 have dt:(re.op=4\/re.op=5->1<=re.kids.length)/\(re.op=3->2<=re.kids.length):=by
  unfold cw at a3;refine⟨λh=>?_,λh=>?_⟩
  ·rw[bd,tK]at a3;simp only at a3;omega
  ·rw[tK]at a3;simp only at a3;omega
 have hm:0<=re.mn/\re.mn<=32/\-1<=re.mx/\re.mx<=32/\(re.mx=-1\/re.mx=0\/re.mn<=re.mx)/\(re.op=4->re.mx=-1\/1<=re.mx/\re.mn<=re.mx):=by
  split at c
  ·omega
  ·omega
 exact g7.2 ⟨fB.2 ⟨dt.1,dt.2,hk,ae,hm.1,hm.2.1,hm.2.2.1,hm.2.2.2.1,hm.2.2.2.2.1,by unfold fx;omega,ae,ae⟩,hm.2.2.2.2.2⟩
theorem OQ (hc:ai<=9) (re:Re) (hw:re.whole ai top=true) (hz:re.size<=1000):re.every uM=true:=by revert hw hz;refine Re.ind (Q:=λre=>re.whole ai top=true->re.size<=1000->re.every uM=true) (λre ih hw hz=>?_) re;obtain⟨h1,h2⟩:=(Re.av re).1 hw;have hl:=Re.mP re.kids;have hs:=Re.size_eq re;exact(Re.av re).2 ⟨Kd hc h1 ae,λk hk=>ih k hk (h2 k hk) (by have:=Re.bN hk;omega)⟩
theorem Wl (hc:ai<=9) (re:Re) (hw:re.whole ai top=true) (hz:re.size<=1000):∀a,re.comp a=true->re.every tH=true:=by
 revert hw hz;refine Re.ind (Q:=λre=>re.whole ai top=true->re.size<=1000->∀a,re.comp a=true->re.every tH=true) (λre ih hw hz a ha=>?_) re;obtain⟨h1,h2⟩:=(Re.av re).1 hw;have hl:=Re.mP re.kids;have hs:=Re.size_eq re;have hsh:=Kd hc h1 ae;obtain⟨⟨a1,a2,a3,a4⟩,_⟩:=fA.1 h1;rw[Re.wq]at ha;split at ha
 ·cases ha
 ·split at ha
  ·cases ha
  ·split at ha
   ·cases ha
   ·rename_i c1 c2 c3;rw[ajo]at ha;refine(Re.av re).2 ⟨iI.2 ⟨hsh,ae,λh=>?_,λh=>?_⟩,λk hk=>ih k hk (h2 k hk) (by have:=Re.bN hk;omega) _ (ha k hk)⟩
    ·unfold cw at a3 a4;rw[bd,tK]at a3 a4;simp only at a3 a4;omega
    ·unfold cw at a4;rw[bd,bd,bd]at a4;simp only at a4;exact ajB ae
def El:kL:=⟨0,0,0,0,[]⟩
def Xo (p:eJ):MY:=⟨p.re.code 0++[El],p.ai,p.aF⟩
theorem Mt (p:eJ) (hv:cz p=0) (hc:p.re.comp []=true) (hz:p.re.kK<=8191):aM prog 39 [aE p] (.tu [Ox (Xo p),i64 0]):=by
 obtain⟨v1,v2,v3,v4,v5⟩:=cT hv;have hC:=OQ v4 p.re v5 ae;have hD:=Wl v4 p.re v5 ae [] hc;have hf:p.re.cN=true:=by
  have:∀re:Re,re.every uM=true->re.cN=true:=λre=>Re.ind (Q:=λre=>re.every uM=true->re.cN=true) (λre ih h=>by
   obtain⟨h1,h2⟩:=(Re.av re).1 h;obtain⟨q1,q2,q3,q4,_⟩:=fB.1 (g7.1 h1).1;exact(Re.pq re).2 ⟨ae,ae,λk hk=>ih k hk (h2 k hk)⟩) re
  exact this p.re hC
 have h1:=nE p hf ae;have h2:=PI p.re [] (JR hC) ae cG;have h3:=Ol p.re hC;have h4:=Dp p.re.size p.re (ajc _) hD ae;have Wx:=jr p.re hC;have MW:=pH p.re hD ae 0;have w1:IntKind.i64.wrap (p.re.kK+1)=p.re.kK+1:=bF _ ae;have c1:¬8192<p.re.kK+1:=ae;have tD:=GX p.re hD;rw[hv]at h1;rw[hc]at h2;unfold Xo Ox;cases p with
 |mk re ai aF =>
 have af7:re.code 0++[El]=re.code 0++[El]:=rfl;simp only at *;have im:=λh=>h4.2 h 0 (ajs _) ae;have S6:=λh=>tD h 0;generalize re.code 0=L at *;simp only[aE,Re.ah re,aiZ,ai2,aiX,ai0,aq re,i64,iD,bD,bV]at h1 h2 h3 im S6;clear tD h4;by_cases hl:uQ re
 ·have eD:=S6 hl;refine bk func39 ntmps39 results39 0 31 ?_;simp only[zI,simprocAttr,aE,Re.ah,bV,iD,bD];refine bO h1 ?_;simp only[zI,simprocAttr,aE,Re.ah,bV,iD,bD,ne_eq,not_true_eq_false];refine bL [] aN (bO h2 ?_);simp only[zX,simprocAttr,bA,i64,aE,Re.ah,bV,iD,bD,aje,ajf];refine bO h3 ?_;simp only[zI,simprocAttr,aE,Re.ah,bV,iD,bD,w1,c1,gt_iff_lt];refine aX ct.bt ?_;refine aA mix [] [(5,[2],[2]),(11,[1],[1])] aN ?_;simp only[zI,simprocAttr,aE,Re.ah,bV,iD,bD];refine bR eD rfl rfl ?_;simp only[zI,simprocAttr,aE,Re.ah,bV,iD,bD,XC];refine⟨⟨ae,TH _,λe he=>by rw[List.mem_singleton.1 he];rfl⟩,?_⟩;rw[g9 7 0 _ _ _ aj,be aj];simp [MY.cells,kL.cells,El,iD,bD]
 ·have eD:=im hl;refine bk func39 ntmps39 results39 0 31 ?_;simp only[zI,simprocAttr,aE,Re.ah,bV,iD,bD];refine bO h1 ?_;simp only[zI,simprocAttr,aE,Re.ah,bV,iD,bD,ne_eq,not_true_eq_false];refine bL [] aN (bO h2 ?_);simp only[zX,simprocAttr,bA,i64,aE,Re.ah,bV,iD,bD,aje,ajf];refine bO h3 ?_;simp only[zI,simprocAttr,aE,Re.ah,bV,iD,bD,w1,c1,gt_iff_lt];refine aX ct.bt ?_;refine aA mix [] [(2,[2],[2]),(5,[2],[2]),(11,[1],[1])] aN ?_;simp only[zI,simprocAttr,aE,Re.ah,bV,iD,bD];refine⟨_,[_],rfl,λs' ef fU=>lL.hole (k:=2) (ob:=hole) eD rfl rfl (by rw[fU 2 aj];rfl) ⟨rfl,rfl⟩,?_⟩;simp only[zI,simprocAttr,aE,Re.ah,bV,iD,bD,aO,hole];refine⟨rfl,λe he=>by rw[List.mem_singleton.1 he];rfl,⟨ae,ae⟩,?_⟩;have hk:(List.map (λc=>List.map V.d c) (List.map kL.cells L))++[[V.d (D.sc (Value.int IntKind.i64 0)),V.d (D.sc (Value.int IntKind.i64 0)),V.d (D.sc (Value.int IntKind.i64 0)),V.d (D.sc (Value.int IntKind.i64 0)),V.d (D.sl [])]]=List.map (λc=>List.map V.d c) (List.map kL.cells (L++[El])):=by simp [kL.cells,El,iD]
  rw[px _ _ (ajc _),hk,g9 7 0 _ _ _ aj,be aj];simp [MY.cells,kL.cells,El,iD,bD]
end Go.Proofs.Ytfmdmlfhigocaaa
