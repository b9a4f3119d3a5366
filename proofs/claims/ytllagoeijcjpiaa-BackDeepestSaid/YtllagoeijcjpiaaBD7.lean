/- A part of the proof (E1 E2). -/
import Derived.Test.YtllagoeijcjpiaaBD5
import Derived.Test.YtllagoeijcjpiaaBD6
set_option linter.unusedSimpArgs false
set_option linter.unusedVariables false
set_option maxRecDepth 100000
set_option maxHeartbeats 80000000
namespace Go.Proofs.Ytllagoeijcjpiaa
open Go.VL Go.Proofs.Try
inductive ETask where
 |run (g:Goal) (i:Int) (c:aq)
 |rep (re:Re) (k:Int) (nx:Goal) (i:Int) (c:aq)
 |node (re:Re) (nx:Goal) (i:Int) (c:aq)
 |body (re:Re) (nx:Goal) (i:Int) (c:aq)
 |alt (l:List Re) (nx:Goal) (i:Int) (c:aq)
 |behind (re kid:Re) (nx:Goal) (i:Int) (c:aq) (j:Nat)
def aU.sub (st:aU):aU:=⟨st.steps,false,[],[]⟩
def aU.ib (st x:aU):aU:={ st with steps:=x.steps,empty:=x.empty }
def lT (i:Int):Goal:=.mk 4 (.mk 0 [] [] 0 0 0 0 false) 0 i .nil
inductive eu (t:List Int) (F:Int):Int→ETask→aU→Bool→aU→Prop where
 |found {ah:Int}{i:Int}{c:aq}{st:aU} (h0:0≤i) (h1:i≤t.length) (hl:st.ai.length=st.ends.length) (wq:st.ends.length<2000000000000):eu t F ah (.run .nil i c) st (decide (0≤ah)&&decide (ah≤(st.ends.length:Int)+1)) { st with ends:=st.ends++[i],ai:=st.ai++[c] }
 |tree {ah kind k f i:Int}{re:Re}{nx:Goal}{c:aq}{st st':aU}{b:Bool} (eO:kind≠1) (yw:kind≠2) (AL:kind≠3) (L3:kind≠4) (h0:0≤i) (h1:i≤t.length) (h:eu t F ah (.node re nx i c) st b st'):eu t F ah (.run (.mk kind re k f nx) i c) st b st'
 |Aa {ah k f i:Int}{re:Re}{nx:Goal}{c:aq}{st st':aU}{b:Bool} (h0:0≤i) (h1:i≤t.length) (h:eu t F ah (.rep re k nx i c) st b st'):eu t F ah (.run (.mk 1 re k f nx) i c) st b st'
 |stay {ah k f i:Int}{re:Re}{nx:Goal}{c:aq}{st:aU} (h0:0≤i) (h1:i≤t.length) (hk:re.mn≤k) (hi:i=f):eu t F ah (.run (.mk 2 re k f nx) i c) st false st
 |iter {ah k f i:Int}{re:Re}{nx:Goal}{c:aq}{st st':aU}{b:Bool} (h0:0≤i) (h1:i≤t.length) (hk:¬(re.mn≤k∧i=f)) (dL:0≤k) (eO:k≤10000000000000) (h:eu t F ah (.run (.mk 1 re (k+1) 0 nx) i c) st b st'):eu t F ah (.run (.mk 2 re k f nx) i c) st b st'
 |save {ah k f i:Int}{re:Re}{nx:Goal}{c:aq}{st st':aU}{b:Bool} (h0:0≤i) (h1:i≤t.length) (h:eu t F ah (.run nx i (jf c re.n f i)) st b st'):eu t F ah (.run (.mk 3 re k f nx) i c) st b st'
 |here {ah k f i:Int}{re:Re}{nx:Goal}{c:aq}{st st':aU}{b:Bool} (h0:0≤i) (h1:i≤t.length) (hi:i=f) (h:eu t F ah (.run nx i c) st b st'):eu t F ah (.run (.mk 4 re k f nx) i c) st b st'
 |gone {ah k f i:Int}{re:Re}{nx:Goal}{c:aq}{st:aU} (h0:0≤i) (h1:i≤t.length) (hi:i≠f):eu t F ah (.run (.mk 4 re k f nx) i c) st false st
 |qc {ah k i:Int}{re:Re}{nx:Goal}{c:aq}{st x:aU}{b:Bool} (hm:re.mode=2) (h:eu t F 1 (.run (.mk 1 (re.bP 0) 0 0 .nil) i c) st.sub b x) (hx:x.empty=true):eu t F ah (.rep re k nx i c) st true (st.ib x)
 |uz {ah k i:Int}{re:Re}{nx:Goal}{c:aq}{st x:aU}{b:Bool} (hm:re.mode=2) (h:eu t F 1 (.run (.mk 1 (re.bP 0) 0 0 .nil) i c) st.sub b x) (hx:x.empty=false) (he:x.ends=[]):eu t F ah (.rep re k nx i c) st false (st.ib x)
 |qZ {ah k i e:Int}{re:Re}{nx:Goal}{c d:aq}{le:List Int}{ld:List aq}{st x st':aU}{b b':Bool} (hm:re.mode=2) (h:eu t F 1 (.run (.mk 1 (re.bP 0) 0 0 .nil) i c) st.sub b x) (hx:x.empty=false) (he:x.ends=e::le) (hd:x.ai=d::ld) (h2:eu t F ah (.run nx e d) (st.ib x) b' st'):eu t F ah (.rep re k nx i c) st b' st'
 |uo {ah k i:Int}{re:Re}{nx:Goal}{c:aq}{st:aU} (hm:re.mode≠2) (hs:0≤st.steps) (he:(st.step F).empty=true):eu t F ah (.rep re k nx i c) st true (st.step F)
 |ug {ah k i:Int}{re kid:Re}{l:List Re}{nx:Goal}{c:aq}{st st':aU}{b:Bool} (hm:re.mode≠2) (hs:0≤st.steps) (he:(st.step F).empty=false) (bH:re.kids=kid::l) (hk:k<re.mn) (h:eu t F ah (.run (.mk 0 kid 0 0 (.mk 2 re k i nx)) i c) (st.step F) b st'):eu t F ah (.rep re k nx i c) st b st'
 |oV {ah k i:Int}{re kid:Re}{l:List Re}{nx:Goal}{c:aq}{st st':aU}{b:Bool} (hm:re.mode≠2) (hs:0≤st.steps) (he:(st.step F).empty=false) (bH:re.kids=kid::l) (hk:¬k<re.mn) (hx:¬(re.mx=-1∨k<re.mx)) (h:eu t F ah (.run nx i c) (st.step F) b st'):eu t F ah (.rep re k nx i c) st b st'
 |Ai {ah k i:Int}{re kid:Re}{l:List Re}{nx:Goal}{c:aq}{st st':aU} (hm:re.mode=1) (hs:0≤st.steps) (he:(st.step F).empty=false) (bH:re.kids=kid::l) (hk:¬k<re.mn) (hx:re.mx=-1∨k<re.mx) (h:eu t F ah (.run nx i c) (st.step F) true st'):eu t F ah (.rep re k nx i c) st true st'
 |zj {ah k i:Int}{re kid:Re}{l:List Re}{nx:Goal}{c:aq}{st s2 st':aU}{b:Bool} (hm:re.mode=1) (hs:0≤st.steps) (he:(st.step F).empty=false) (bH:re.kids=kid::l) (hk:¬k<re.mn) (hx:re.mx=-1∨k<re.mx) (h:eu t F ah (.run nx i c) (st.step F) false s2)
   (h2:eu t F ah (.run (.mk 0 kid 0 0 (.mk 2 re k i nx)) i c) s2 b st'):eu t F ah (.rep re k nx i c) st b st'
 |ze {ah k i:Int}{re kid:Re}{l:List Re}{nx:Goal}{c:aq}{st st':aU} (hm:re.mode≠2) (ly:re.mode≠1) (hs:0≤st.steps) (he:(st.step F).empty=false) (bH:re.kids=kid::l) (hk:¬k<re.mn) (hx:re.mx=-1∨k<re.mx) (h:eu t F ah (.run (.mk 0 kid 0 0 (.mk 2 re k i nx)) i c) (st.step F) true st'):eu t F ah (.rep re k nx i c) st true st'
 |z7 {ah k i:Int}{re kid:Re}{l:List Re}{nx:Goal}{c:aq}{st s2 st':aU}{b:Bool} (hm:re.mode≠2) (ly:re.mode≠1) (hs:0≤st.steps) (he:(st.step F).empty=false) (bH:re.kids=kid::l) (hk:¬k<re.mn) (hx:re.mx=-1∨k<re.mx) (h:eu t F ah (.run (.mk 0 kid 0 0 (.mk 2 re k i nx)) i c) (st.step F) false s2)
   (h2:eu t F ah (.run nx i c) s2 b st'):eu t F ah (.rep re k nx i c) st b st'
 |qJ {ah i:Int}{re:Re}{nx:Goal}{c:aq}{st st':aU}{b:Bool} (ho:re.op=4) (h0:0≤i) (h1:i≤t.length) (h:eu t F ah (.rep re 0 nx i c) st b st'):eu t F ah (.node re nx i c) st b st'
 |qW {ah i:Int}{re:Re}{nx:Goal}{c:aq}{st:aU} (ho:re.op≠4) (hs:0≤st.steps) (he:(st.step F).empty=true):eu t F ah (.node re nx i c) st true (st.step F)
 |node {ah i:Int}{re:Re}{nx:Goal}{c:aq}{st st':aU}{b:Bool} (ho:re.op≠4) (hs:0≤st.steps) (he:(st.step F).empty=false) (h:eu t F ah (.body re nx i c) (st.step F) b st'):eu t F ah (.node re nx i c) st b st'
 |empty {ah i:Int}{re:Re}{nx:Goal}{c:aq}{st st':aU}{b:Bool} (ho:re.op ∉ ([1,2,3,5,6,7,8,9,10,11]:List Int)) (h:eu t F ah (.run nx i c) st b st'):eu t F ah (.body re nx i c) st b st'
 |tY {ah i:Int}{re:Re}{nx:Goal}{c:aq}{st st':aU}{b:Bool} (ho:re.op=1) (hi:i<t.length) (hs:oQ re.set (eH t i)=true) (h:eu t F ah (.run nx (i+1) c) st b st'):eu t F ah (.body re nx i c) st b st'
 |zf {ah i:Int}{re:Re}{nx:Goal}{c:aq}{st:aU} (ho:re.op=1) (hn:¬(i<t.length∧oQ re.set (eH t i)=true)):eu t F ah (.body re nx i c) st false st
 |cat {ah i:Int}{re:Re}{nx:Goal}{c:aq}{st st':aU}{b:Bool} (ho:re.op=2) (h:eu t F ah (.run (gu re.kids nx) i c) st b st'):eu t F ah (.body re nx i c) st b st'
 |alt {ah i:Int}{re:Re}{nx:Goal}{c:aq}{st st':aU}{b:Bool} (ho:re.op=3) (h:eu t F ah (.alt re.kids nx i c) st b st'):eu t F ah (.body re nx i c) st b st'
 |uB {ah i:Int}{nx:Goal}{c:aq}{st:aU}:eu t F ah (.alt [] nx i c) st false st
 |GJ {ah i:Int}{kid:Re}{l:List Re}{nx:Goal}{c:aq}{st st':aU} (h:eu t F ah (.run (.mk 0 kid 0 0 nx) i c) st true st'):eu t F ah (.alt (kid::l) nx i c) st true st'
 |AE {ah i:Int}{kid:Re}{l:List Re}{nx:Goal}{c:aq}{st s2 st':aU}{b:Bool} (h:eu t F ah (.run (.mk 0 kid 0 0 nx) i c) st false s2) (h2:eu t F ah (.alt l nx i c) s2 b st'):eu t F ah (.alt (kid::l) nx i c) st b st'
 |cap {ah i:Int}{re kid:Re}{l:List Re}{nx:Goal}{c:aq}{st st':aU}{b:Bool} (ho:re.op=5) (bH:re.kids=kid::l) (h:eu t F ah (.run (.mk 0 kid 0 0 (.mk 3 re 0 i nx)) i c) st b st'):eu t F ah (.body re nx i c) st b st'
 |qX {ah i:Int}{re:Re}{nx:Goal}{c:aq}{st:aU} (ho:re.op=6) (hx:(bo c re.n).1<0):eu t F ah (.body re nx i c) st false st
 |qt {ah i:Int}{re:Re}{nx:Goal}{c:aq}{st:aU} (ho:re.op=6) (hx:¬(bo c re.n).1<0) (bW:¬(bo c re.n).2<(bo c re.n).1) (h2:(bo c re.n).2≤t.length) (hl:t.length<i+(bo c re.n).2-(bo c re.n).1):eu t F ah (.body re nx i c) st false st
 |ud {ah i:Int}{re:Re}{nx:Goal}{c:aq}{st st':aU}{b:Bool} (ho:re.op=6) (hx:¬(bo c re.n).1<0) (bW:¬(bo c re.n).2<(bo c re.n).1) (h2:(bo c re.n).2≤t.length) (hl:¬t.length<i+(bo c re.n).2-(bo c re.n).1) (hs:cO t (bo c re.n).1 i ((bo c re.n).2-(bo c re.n).1).toNat=true)
   (h:eu t F ah (.run nx (i+(bo c re.n).2-(bo c re.n).1) c) st b st'):eu t F ah (.body re nx i c) st b st'
 |Ae {ah i:Int}{re:Re}{nx:Goal}{c:aq}{st:aU} (ho:re.op=6) (hx:¬(bo c re.n).1<0) (bW:¬(bo c re.n).2<(bo c re.n).1) (h2:(bo c re.n).2≤t.length) (hl:¬t.length<i+(bo c re.n).2-(bo c re.n).1) (hs:cO t (bo c re.n).1 i ((bo c re.n).2-(bo c re.n).1).toNat=false):eu t F ah (.body re nx i c) st false st
 |ng {ah i:Int}{re kid:Re}{l:List Re}{nx:Goal}{c:aq}{st x:aU}{b:Bool} (ho:re.op=7) (bH:re.kids=kid::l) (h:eu t F 1 (.run (.mk 0 kid 0 0 .nil) i c) st.sub b x) (hx:x.empty=true):eu t F ah (.body re nx i c) st true (st.ib x)
 |qa {ah i:Int}{re kid:Re}{l:List Re}{nx:Goal}{c:aq}{st x:aU}{b:Bool} (ho:re.op=7) (bH:re.kids=kid::l) (h:eu t F 1 (.run (.mk 0 kid 0 0 .nil) i c) st.sub b x) (hx:x.empty=false) (he:x.ends=[]) (hn:re.neg=false):eu t F ah (.body re nx i c) st false (st.ib x)
 |jN {ah i:Int}{re kid:Re}{l:List Re}{nx:Goal}{c:aq}{st x st':aU}{b b':Bool} (ho:re.op=7) (bH:re.kids=kid::l) (h:eu t F 1 (.run (.mk 0 kid 0 0 .nil) i c) st.sub b x) (hx:x.empty=false) (he:x.ends=[]) (hn:re.neg=true) (h2:eu t F ah (.run nx i c) (st.ib x) b' st'):eu t F ah (.body re nx i c) st b' st'
 |nt {ah i e:Int}{re kid:Re}{l:List Re}{nx:Goal}{c d:aq}{le:List Int}{ld:List aq}{st x st':aU}{b b':Bool} (ho:re.op=7) (bH:re.kids=kid::l) (h:eu t F 1 (.run (.mk 0 kid 0 0 .nil) i c) st.sub b x) (hx:x.empty=false) (he:x.ends=e::le) (hd:x.ai=d::ld) (hn:re.neg=false) (h2:eu t F ah (.run nx i d) (st.ib x) b' st'):eu t F ah (.body re nx i c) st b' st'
 |iZ {ah i e:Int}{re kid:Re}{l:List Re}{nx:Goal}{c d:aq}{le:List Int}{ld:List aq}{st x:aU}{b:Bool} (ho:re.op=7) (bH:re.kids=kid::l) (h:eu t F 1 (.run (.mk 0 kid 0 0 .nil) i c) st.sub b x) (hx:x.empty=false) (he:x.ends=e::le) (hd:x.ai=d::ld) (hn:re.neg=true):eu t F ah (.body re nx i c) st false (st.ib x)
 |behind {ah i:Int}{re kid:Re}{l:List Re}{nx:Goal}{c:aq}{st st':aU}{b:Bool} (ho:re.op=8) (bH:re.kids=kid::l) (he:st.empty=false) (h:eu t F ah (.behind re kid nx i c (i.toNat+1)) st b st'):eu t F ah (.body re nx i c) st b st'
 |Hv {ah i:Int}{re kid:Re}{nx:Goal}{c:aq}{st:aU} (hn:re.neg=false):eu t F ah (.behind re kid nx i c 0) st false st
 |qm {ah i:Int}{re kid:Re}{nx:Goal}{c:aq}{st st':aU}{b:Bool} (hn:re.neg=true) (h:eu t F ah (.run nx i c) st b st'):eu t F ah (.behind re kid nx i c 0) st b st'
 |zx {ah i:Int}{j:Nat}{re kid:Re}{nx:Goal}{c:aq}{st x:aU}{b:Bool} (h:eu t F 1 (.run (.mk 0 kid 0 0 (lT i)) j c) st.sub b x) (hx:x.empty=true):eu t F ah (.behind re kid nx i c (j+1)) st true (st.ib x)
 |zF {ah i e:Int}{j:Nat}{re kid:Re}{nx:Goal}{c d:aq}{le:List Int}{ld:List aq}{st x st':aU}{b b':Bool} (h:eu t F 1 (.run (.mk 0 kid 0 0 (lT i)) j c) st.sub b x) (hx:x.empty=false) (he:x.ends=e::le) (hd:x.ai=d::ld) (hn:re.neg=false) (h2:eu t F ah (.run nx i d) (st.ib x) b' st'):eu t F ah (.behind re kid nx i c (j+1)) st b' st'
 |nk {ah i e:Int}{j:Nat}{re kid:Re}{nx:Goal}{c d:aq}{le:List Int}{ld:List aq}{st x:aU}{b:Bool} (h:eu t F 1 (.run (.mk 0 kid 0 0 (lT i)) j c) st.sub b x) (hx:x.empty=false) (he:x.ends=e::le) (hd:x.ai=d::ld) (hn:re.neg=true):eu t F ah (.behind re kid nx i c (j+1)) st false (st.ib x)
 |uP {ah i:Int}{j:Nat}{re kid:Re}{nx:Goal}{c:aq}{st x st':aU}{b b':Bool} (h:eu t F 1 (.run (.mk 0 kid 0 0 (lT i)) j c) st.sub b x) (hx:x.empty=false) (he:x.ends=[]) (h2:eu t F ah (.behind re kid nx i c j) (st.ib x) b' st'):eu t F ah (.behind re kid nx i c (j+1)) st b' st'
 |pZ {ah i:Int}{re kid:Re}{l:List Re}{nx:Goal}{c:aq}{st x:aU}{b:Bool} (ho:re.op=9) (bH:re.kids=kid::l) (h:eu t F 1 (.run (.mk 0 kid 0 0 .nil) i c) st.sub b x) (hx:x.empty=true):eu t F ah (.body re nx i c) st true (st.ib x)
 |uO {ah i:Int}{re kid:Re}{l:List Re}{nx:Goal}{c:aq}{st x:aU}{b:Bool} (ho:re.op=9) (bH:re.kids=kid::l) (h:eu t F 1 (.run (.mk 0 kid 0 0 .nil) i c) st.sub b x) (hx:x.empty=false) (he:x.ends=[]):eu t F ah (.body re nx i c) st false (st.ib x)
 |qQ {ah i e:Int}{re kid:Re}{l:List Re}{nx:Goal}{c d:aq}{le:List Int}{ld:List aq}{st x st':aU}{b b':Bool} (ho:re.op=9) (bH:re.kids=kid::l) (h:eu t F 1 (.run (.mk 0 kid 0 0 .nil) i c) st.sub b x) (hx:x.empty=false) (he:x.ends=e::le) (hd:x.ai=d::ld) (h2:eu t F ah (.run nx e d) (st.ib x) b' st'):eu t F ah (.body re nx i c) st b' st'
 |cond {ah i:Int}{re yes no:Re}{l:List Re}{nx:Goal}{c:aq}{st st':aU}{b:Bool} (ho:re.op=10) (bH:re.kids=yes::no::l) (h:eu t F ah (.run (.mk 0 (if 0≤(bo c re.n).1 then yes else no) 0 0 nx) i c) st b st'):eu t F ah (.body re nx i c) st b st'
 |lB {ah i:Int}{re:Re}{nx:Goal}{c:aq}{st st':aU}{b:Bool} (ho:re.op=11) (hh:bN re.n t i=true) (h:eu t F ah (.run nx i c) st b st'):eu t F ah (.body re nx i c) st b st'
 |ny {ah i:Int}{re:Re}{nx:Goal}{c:aq}{st:aU} (ho:re.op=11) (hh:bN re.n t i=false):eu t F ah (.body re nx i c) st false st
theorem nJ {rec:Int→Task→aU→Option (Bool×aU)}{g:Goal}{i:Int}{c:aq}{st s2:aU}{o:Option (Int×aq)} (h:cT rec g i c st=some (o,s2)) :
  ∃b x,rec 1 (.run g i c) st.sub=some (b,x)∧s2=st.ib x∧((x.empty=true∧o=none)∨(x.empty=false∧x.ends=[]∧o=none)∨(x.empty=false∧∃e le d ld,x.ends=e::le∧x.ai=d::ld∧o=some (e,d))):=by
 unfold cT at h
 unfold aU.sub aU.ib
 cases hx:rec 1 (.run g i c) ⟨st.steps,false,[],[]⟩ with
 |none=>rw[hx]at h;cases h
 |some y =>
  obtain⟨b,x⟩:=y
  rw[hx]at h
  simp only at h
  refine⟨b,x,rfl,?_⟩
  cases he:x.empty with
  |true =>
   rw[he,if_pos rfl]at h
   cases h
   exact⟨rfl,.inl ⟨rfl,rfl⟩⟩
  |false =>
   rw[he,if_neg V1]at h
   cases hE:x.ends with
   |nil =>
    rw[hE]at h
    cases h
    exact⟨rfl,.inr (.inl ⟨rfl,rfl,rfl⟩)⟩
   |cons e le =>
    cases hD:x.ai with
    |nil=>rw[hE,hD]at h;cases h
    |cons d ld =>
     rw[hE,hD]at h
     cases h
     exact⟨rfl,.inr (.inr ⟨rfl,e,le,d,ld,rfl,rfl,rfl⟩)⟩
def Task.e:Task→ETask
 |.run g i c=>.run g i c
 |.rep (.mk _ re k _ nx) i c=>.rep re k nx i c
 |.rep .nil i c=>.alt [] .nil i c
 |.node (.mk _ re _ _ nx) i c=>.node re nx i c
 |.node .nil i c=>.alt [] .nil i c
section conv
variable {t:List Int}{F:Int}{rec:Int→Task→aU→Option (Bool×aU)} (fe:∀ah task st b st',rec ah task st=some (b,st')→eu t F ah task.e st b st')
include fe
theorem F1 {ah:Int}{nx:Goal}{i:Int}{c:aq}:∀(l:List Re) (st st':aU) (b:Bool),oM (fun k st=>rec ah (.run (.mk 0 k 0 0 nx) i c) st) l st=some (b,st')→eu t F ah (.alt l nx i c) st b st'
 |[],st,st',b,h=>by simp only[oM]at h;cases h;exact .uB
 |k::l,st,st',b,h=>by
  simp only[oM]at h
  cases hx:rec ah (.run (.mk 0 k 0 0 nx) i c) st with
  |none=>rw[hx]at h;cases h
  |some y =>
   obtain⟨b1,s2⟩:=y
   rw[hx]at h
   have h1:=fe _ _ _ _ _ hx
   cases b1 with
   |true=>simp only[rm]at h;cases h;exact .GJ h1
   |false=>simp only[rm]at h;exact .AE h1 (F1 l s2 st' b h)
theorem xi {ah:Int}{re kid:Re}{nx:Goal}{i:Int}{c:aq}{b:Bool}{st':aU}:∀(j:Nat) (st s2:aU) (ro:Option aq),st.empty=false→dK (fun k st=>cT rec (.mk 0 kid 0 0 (lT i)) k c st) j st=some (ro,s2) →
  (if s2.empty then some (true,s2) else if re.neg=true then (match ro with|some _=>some (false,s2)|none=>rec ah (.run nx i c) s2) else match ro with|some d=>rec ah (.run nx i d) s2|none=>some (false,s2))=some (b,st')→eu t F ah (.behind re kid nx i c j) st b st'
 |0,st,s2,ro,he,hb,h=>by
  simp only[dK]at hb
  cases hb
  rw[if_neg (by rw[he];exact V1)]at h
  by_cases hn:re.neg=true
  ·rw[if_pos hn]at h;exact .qm hn (fe _ _ _ _ _ h)
  ·rw[if_neg hn]at h;cases h;exact .Hv (by simpa using hn)
 |j+1,st,s2,ro,he,hb,h=>by
  simp only[dK]at hb
  rw[if_neg (by rw[he];exact V1)]at hb
  cases hf:cT rec (.mk 0 kid 0 0 (lT i)) j c st with
  |none=>rw[hf]at hb;cases hb
  |some y =>
   obtain⟨o,s3⟩:=y
   rw[hf]at hb
   obtain⟨b1,x,k1,rfl,k2⟩:=nJ hf
   have h1:=fe _ _ _ _ _ k1
   rcases k2 with ⟨e1,rfl⟩|⟨e1,e2,rfl⟩|⟨e1,e,le,d,ld,e2,e3,rfl⟩
   ·have TJ:(st.ib x).empty=true:=e1
    simp only at hb
    have Lb:(ro,s2)=(none,st.ib x):=by
     cases j with
     |zero=>simp only[dK]at hb;exact(Option.some.inj hb).symm
     |succ j=>simp only[dK]at hb;rw[if_pos TJ]at hb;exact(Option.some.inj hb).symm
    cases Lb
    rw[if_pos TJ]at h
    cases h
    exact .zx h1 e1
   ·simp only at hb
    exact .uP h1 e1 e2 (xi j _ s2 ro e1 hb h)
   ·simp only at hb
    cases hb
    rw[if_neg (by show ¬x.empty=true;rw[e1];exact V1)]at h
    by_cases hn:re.neg=true
    ·rw[if_pos hn]at h;cases h;exact .nk h1 e1 e2 e3 hn
    ·rw[if_neg hn]at h;exact .zF h1 e1 e2 e3 (by simpa using hn) (fe _ _ _ _ _ h)
theorem KW {ah:Int}{re:Re}{nx:Goal}{i:Int}{c:aq}{st st':aU}{b:Bool} (ji:st.empty=false) (h:eQ t rec ah re nx i c st=some (b,st')):eu t F ah (.body re nx i c) st b st':=by
 unfold eQ at h
 by_cases o1:re.op=1
 ·rw[if_pos o1]at h
  by_cases hc:i<t.length∧oQ re.set (eH t i)=true
  ·rw[if_pos hc]at h;exact .tY o1 hc.1 hc.2 (fe _ _ _ _ _ h)
  ·rw[if_neg hc]at h;cases h;exact .zf o1 hc
 rw[if_neg o1]at h
 by_cases o2:re.op=2
 ·rw[if_pos o2]at h;exact .cat o2 (fe _ _ _ _ _ h)
 rw[if_neg o2]at h
 by_cases o3:re.op=3
 ·rw[if_pos o3]at h;exact .alt o3 (F1 fe _ _ _ _ h)
 rw[if_neg o3]at h
 by_cases o5:re.op=5
 ·rw[if_pos o5]at h
  cases hk:re.kids with
  |nil=>rw[hk]at h;cases h
  |cons k l=>rw[hk]at h;exact .cap o5 hk (fe _ _ _ _ _ h)
 rw[if_neg o5]at h
 by_cases o6:re.op=6
 ·rw[if_pos o6]at h
  simp only at h
  by_cases c1:(bo c re.n).1<0
  ·rw[if_pos c1]at h;cases h;exact .qX o6 c1
  rw[if_neg c1]at h
  by_cases c2:(bo c re.n).2<(bo c re.n).1∨(t.length:Int)<(bo c re.n).2
  ·rw[if_pos c2]at h;cases h
  rw[if_neg c2]at h
  by_cases c3:t.length<i+(bo c re.n).2-(bo c re.n).1
  ·rw[if_pos c3]at h;cases h;exact .qt o6 c1 (by omega) (by omega) c3
  rw[if_neg c3]at h
  by_cases c4:cO t (bo c re.n).1 i ((bo c re.n).2-(bo c re.n).1).toNat=true
  ·rw[if_pos c4]at h;exact .ud o6 c1 (by omega) (by omega) c3 c4 (fe _ _ _ _ _ h)
  ·rw[if_neg c4]at h;cases h;exact .Ae o6 c1 (by omega) (by omega) c3 (by simpa using c4)
 rw[if_neg o6]at h
 by_cases o7:re.op=7∨re.op=8
 ·rw[if_pos o7]at h
  cases hk:re.kids with
  |nil=>rw[hk]at h;cases h
  |cons k l =>
   rw[hk]at h
   simp only at h
   cases hx:kN rec re.op k i c st with
   |none=>rw[hx]at h;cases h
   |some y =>
    obtain⟨ro,s2⟩:=y
    rw[hx]at h
    simp only at h
    unfold kN at hx
    by_cases p7:re.op=7
    ·rw[if_pos p7]at hx
     cases hf:cT rec (.mk 0 k 0 0 .nil) i c st with
     |none=>rw[hf]at hx;cases hx
     |some z =>
      obtain⟨o,s3⟩:=z
      rw[hf]at hx
      cases hx
      obtain⟨b1,x,k1,rfl,k2⟩:=nJ hf
      have h1:=fe _ _ _ _ _ k1
      rcases k2 with ⟨e1,rfl⟩|⟨e1,e2,rfl⟩|⟨e1,e,le,d,ld,e2,e3,rfl⟩
      ·rw[if_pos (show (st.ib x).empty=true from e1)]at h
       cases h
       exact .ng p7 hk h1 e1
      ·rw[if_neg (by show ¬x.empty=true;rw[e1];exact V1)]at h
       by_cases hn:re.neg=true
       ·rw[if_pos hn]at h;exact .jN p7 hk h1 e1 e2 hn (fe _ _ _ _ _ h)
       ·rw[if_neg hn]at h;cases h;exact .qa p7 hk h1 e1 e2 (by simpa using hn)
      ·rw[if_neg (by show ¬x.empty=true;rw[e1];exact V1)]at h
       by_cases hn:re.neg=true
       ·rw[if_pos hn]at h;cases h;exact .iZ p7 hk h1 e1 e2 e3 hn
       ·rw[if_neg hn]at h;exact .nt p7 hk h1 e1 e2 e3 (by simpa using hn) (fe _ _ _ _ _ h)
    ·rw[if_neg p7]at hx
     exact .behind (by omega) hk ji (xi fe _ _ _ _ ji hx h)
 rw[if_neg o7]at h
 by_cases o9:re.op=9
 ·rw[if_pos o9]at h
  cases hk:re.kids with
  |nil=>rw[hk]at h;cases h
  |cons k l =>
   rw[hk]at h
   simp only at h
   cases hf:cT rec (.mk 0 k 0 0 .nil) i c st with
   |none=>rw[hf]at h;cases h
   |some z =>
    obtain⟨o,s3⟩:=z
    rw[hf]at h
    simp only at h
    obtain⟨b1,x,k1,rfl,k2⟩:=nJ hf
    have h1:=fe _ _ _ _ _ k1
    rcases k2 with ⟨e1,rfl⟩|⟨e1,e2,rfl⟩|⟨e1,e,le,d,ld,e2,e3,rfl⟩
    ·rw[if_pos (show (st.ib x).empty=true from e1)]at h
     cases h
     exact .pZ o9 hk h1 e1
    ·rw[if_neg (by show ¬x.empty=true;rw[e1];exact V1)]at h
     cases h
     exact .uO o9 hk h1 e1 e2
    ·rw[if_neg (by show ¬x.empty=true;rw[e1];exact V1)]at h
     exact .qQ o9 hk h1 e1 e2 e3 (fe _ _ _ _ _ h)
 rw[if_neg o9]at h
 by_cases sg:re.op=10
 ·rw[if_pos sg]at h
  match hk:re.kids with
  |[]=>rw[hk]at h;cases h
  |[_]=>rw[hk]at h;cases h
  |yes::no::l=>rw[hk]at h;exact .cond sg hk (fe _ _ _ _ _ h)
 rw[if_neg sg]at h
 by_cases wT:re.op=11
 ·rw[if_pos wT]at h
  by_cases q:bN re.n t i=true
  ·rw[if_pos q]at h;exact .lB wT q (fe _ _ _ _ _ h)
  ·rw[if_neg q]at h;cases h;exact .ny wT (by simpa using q)
 rw[if_neg wT]at h
 exact .empty (by simp;omega) (fe _ _ _ _ _ h)
theorem L4 {ah:Int}{re:Re}{k:Int}{nx:Goal}{i:Int}{c:aq}{st st':aU}{b:Bool} (h:n8 F rec ah re k nx i c st=some (b,st')):eu t F ah (.rep re k nx i c) st b st':=by
 unfold n8 at h
 by_cases hm:re.mode=2
 ·rw[if_pos hm]at h
  cases hf:cT rec (.mk 1 (re.bP 0) 0 0 .nil) i c st with
  |none=>rw[hf]at h;cases h
  |some z =>
   obtain⟨o,s3⟩:=z
   rw[hf]at h
   simp only at h
   obtain⟨b1,x,k1,rfl,k2⟩:=nJ hf
   have h1:=fe _ _ _ _ _ k1
   rcases k2 with ⟨e1,rfl⟩|⟨e1,e2,rfl⟩|⟨e1,e,le,d,ld,e2,e3,rfl⟩
   ·simp only at h
    obtain⟨rfl,rfl⟩:=Prod.mk.inj (Option.some.inj h)
    have:=eu.qc (ah:=ah) (k:=k) (nx:=nx) hm h1 e1
    rwa [← show (st.ib x).empty=true from e1]at this
   ·simp only at h
    obtain⟨rfl,rfl⟩:=Prod.mk.inj (Option.some.inj h)
    have:=eu.uz (ah:=ah) (k:=k) (nx:=nx) hm h1 e1 e2
    rwa [← show (st.ib x).empty=false from e1]at this
   ·simp only at h
    exact .qZ hm h1 e1 e2 e3 (fe _ _ _ _ _ h)
 rw[if_neg hm]at h
 by_cases hs:st.steps<0∨10000000000000<st.steps
 ·rw[if_pos hs]at h;cases h
 rw[if_neg hs]at h
 simp only at h
 have eB:0≤st.steps:=by omega
 by_cases he:(st.step F).empty=true
 ·rw[if_pos he]at h;cases h;exact .uo hm eB he
 rw[if_neg he]at h
 have he:(st.step F).empty=false:=by simpa using he
 cases hk:re.kids with
 |nil=>rw[hk]at h;cases h
 |cons kid l =>
  rw[hk]at h
  simp only at h
  by_cases c2:k<re.mn
  ·rw[if_pos c2]at h;exact .ug hm eB he hk c2 (fe _ _ _ _ _ h)
  rw[if_neg c2]at h
  by_cases m1:re.mode=1
  ·rw[if_pos m1]at h
   cases hx:rec ah (.run nx i c) (st.step F) with
   |none=>rw[hx]at h;cases h
   |some y =>
    obtain⟨b1,s2⟩:=y
    rw[hx]at h
    have h1:=fe _ _ _ _ _ hx
    by_cases cM:re.mx=-1∨k<re.mx
    ·cases b1 with
     |true=>simp only[rm]at h;cases h;exact .Ai m1 eB he hk c2 cM h1
     |false=>simp only[rm]at h;rw[if_pos cM]at h;exact .zj m1 eB he hk c2 cM h1 (fe _ _ _ _ _ h)
    ·cases b1 with
     |true=>simp only[rm]at h;cases h;exact .oV hm eB he hk c2 cM h1
     |false=>simp only[rm]at h;rw[if_neg cM]at h;cases h;exact .oV hm eB he hk c2 cM h1
  ·rw[if_neg m1]at h
   by_cases cM:re.mx=-1∨k<re.mx
   ·rw[if_pos cM]at h
    cases hx:rec ah (.run (.mk 0 kid 0 0 (.mk 2 re k i nx)) i c) (st.step F) with
    |none=>rw[hx]at h;cases h
    |some y =>
     obtain⟨b1,s2⟩:=y
     rw[hx]at h
     have h1:=fe _ _ _ _ _ hx
     cases b1 with
     |true=>simp only[rm]at h;cases h;exact .ze hm m1 eB he hk c2 cM h1
     |false=>simp only[rm]at h;exact .z7 hm m1 eB he hk c2 cM h1 (fe _ _ _ _ _ h)
   ·rw[if_neg cM]at h
    simp only[rm]at h
    exact .oV hm eB he hk c2 cM (fe _ _ _ _ _ h)
end conv
theorem J0 {t:List Int}{F:Int}:∀(n:Nat) (ah:Int) (task:Task) (st:aU) (b:Bool) (st':aU),eh t F n ah task st=some (b,st')→eu t F ah task.e st b st'
 |0,_,_,_,_,_,h=>by cases h
 |n+1,ah,task,st,b,st',h=>by
  have fe:=J0 (t:=t) (F:=F) n
  replace h:b8 t F (eh t F n) ah task st=some (b,st'):=h
  cases task with
  |run g i c =>
   simp only[b8]at h
   split at h
   ·cases h
   rename_i hi
   have h0:0≤i:=by omega
   have h1:i≤t.length:=by omega
   cases g with
   |nil =>
    simp only at h
    split at h
    ·rename_i hl
     obtain⟨rfl,rfl⟩:=Prod.mk.inj (Option.some.inj h)
     exact .found h0 h1 hl.2 hl.1
    ·cases h
   |mk kind re k f nx =>
    simp only at h
    by_cases k1:kind=1
    ·rw[if_pos k1]at h;subst k1;exact .Aa h0 h1 (fe _ _ _ _ _ h)
    rw[if_neg k1]at h
    by_cases k2:kind=2
    ·rw[if_pos k2]at h;subst k2
     by_cases q:re.mn≤k∧i=f
     ·rw[if_pos q]at h;cases h;exact .stay h0 h1 q.1 q.2
     rw[if_neg q]at h
     split at h
     ·cases h
     exact .iter h0 h1 q (by omega) (by omega) (fe _ _ _ _ _ h)
    rw[if_neg k2]at h
    by_cases k3:kind=3
    ·rw[if_pos k3]at h;subst k3
     split at h
     ·cases h
     exact .save h0 h1 (fe _ _ _ _ _ h)
    rw[if_neg k3]at h
    by_cases k4:kind=4
    ·rw[if_pos k4]at h;subst k4
     by_cases q:i=f
     ·rw[if_pos q]at h;exact .here h0 h1 q (fe _ _ _ _ _ h)
     ·rw[if_neg q]at h;cases h;exact .gone h0 h1 q
    rw[if_neg k4]at h
    exact .tree k1 k2 k3 k4 h0 h1 (fe _ _ _ _ _ h)
  |rep g i c =>
   simp only[b8]at h
   split at h
   ·cases h
   cases g with
   |nil=>cases h
   |mk kind re k f nx=>exact L4 fe h
  |node g i c =>
   simp only[b8]at h
   split at h
   ·cases h
   rename_i hi
   cases g with
   |nil=>cases h
   |mk kind re k f nx =>
    simp only at h
    by_cases o4:re.op=4
    ·rw[if_pos o4]at h;exact .qJ o4 (by omega) (by omega) (fe _ _ _ _ _ h)
    rw[if_neg o4]at h
    split at h
    ·cases h
    split at h
    ·cases h
    rename_i hs
    have eB:0≤st.steps:=by omega
    by_cases he:(st.step F).empty=true
    ·rw[if_pos he]at h;cases h;exact .qW o4 eB he
    ·rw[if_neg he]at h
     have he:(st.step F).empty=false:=by simpa using he
     exact .node o4 eB he (KW fe he h)
inductive Shape (t:List Int) (rec:Int→Task→aU→Option (Bool×aU)) (X:Int→Option (Bool×aU)) (st:aU):Prop where
 |Ub (b:Bool) (s:aU) (h:∀m,X m=some (b,s)) (he:b=s.empty) (h1:s.ends=st.ends) (h2:s.ai=st.ai)
 |on (task:Task) (s:aU) (h:∀m,X m=rec m task s) (he:s.empty=false) (h1:s.ends=st.ends) (h2:s.ai=st.ai)
 |alts (l:List Re) (nx:Goal) (i:Int) (c:aq) (h:∀m,X m=oM (fun k st=>rec m (.run (.mk 0 k 0 0 nx) i c) st) l st)
def T8 (N:Nat) (st':aU) (o:Option (Bool×aU)):Prop :=
 (st'.ends.length<N∧o=some (false,st'))∨(N≤st'.ends.length∧∃s2,o=some (true,s2)∧s2.empty=false∧s2.steps≤st'.steps∧s2.ends=st'.ends.take N∧s2.ai=st'.ai.take N)
end Go.Proofs.Ytllagoeijcjpiaa
