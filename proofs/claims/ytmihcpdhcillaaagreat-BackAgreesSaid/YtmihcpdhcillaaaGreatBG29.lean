/- A part of the proof (E1 E2 G62). -/
import Derived.Test.YtmihcpdhcillaaaGreatBG6
import Derived.Test.YtmihcpdhcillaaaGreatBG15
import Derived.Test.YtmihcpdhcillaaaGreatBG19
set_option linter.unusedSimpArgs false
set_option linter.unusedVariables false
set_option maxRecDepth 100000
set_option maxHeartbeats 80000000
namespace Go.Proofs.YtmihcpdhcillaaaGreat
open Go.VL Go.Proofs.Tryz
inductive ETask where
 |run (g:Goal) (i:Int) (c:ar)
 |rep (re:Re) (k:Int) (nx:Goal) (i:Int) (c:ar)
 |node (re:Re) (nx:Goal) (i:Int) (c:ar)
 |body (re:Re) (nx:Goal) (i:Int) (c:ar)
 |alt (l:List Re) (nx:Goal) (i:Int) (c:ar)
 |behind (re kid:Re) (nx:Goal) (i:Int) (c:ar) (j:Nat)
def aQ.sub (st:aQ):aQ:=⟨st.steps,false,[],[]⟩
def aQ.lJ (st x:aQ):aQ:={ st with steps:=x.steps,empty:=x.empty }
def xX (i:Int):Goal:=.mk 4 (.mk 0 [] [] 0 0 0 0 false) 0 i .nil
inductive dU (t:List Int) (F:Int):Int→ETask→aQ→Bool→aQ→Prop where
 |found {ah:Int}{i:Int}{c:ar}{st:aQ} (h0:0≤i) (h1:i≤t.length) (hl:st.ak.length=st.ends.length) (Bf:st.ends.length<2000000000000):dU t F ah (.run .nil i c) st (decide (0≤ah)&&decide (ah≤(st.ends.length:Int)+1)) { st with ends:=st.ends++[i],ak:=st.ak++[c] }
 |tree {ah kind k f i:Int}{re:Re}{nx:Goal}{c:ar}{st st':aQ}{b:Bool} (jT:kind≠1) (od:kind≠2) (IQ:kind≠3) (Sq:kind≠4) (h0:0≤i) (h1:i≤t.length) (h:dU t F ah (.node re nx i c) st b st'):dU t F ah (.run (.mk kind re k f nx) i c) st b st'
 |Gm {ah k f i:Int}{re:Re}{nx:Goal}{c:ar}{st st':aQ}{b:Bool} (h0:0≤i) (h1:i≤t.length) (h:dU t F ah (.rep re k nx i c) st b st'):dU t F ah (.run (.mk 1 re k f nx) i c) st b st'
 |stay {ah k f i:Int}{re:Re}{nx:Goal}{c:ar}{st:aQ} (h0:0≤i) (h1:i≤t.length) (hk:re.mn≤k) (hi:i=f):dU t F ah (.run (.mk 2 re k f nx) i c) st false st
 |iter {ah k f i:Int}{re:Re}{nx:Goal}{c:ar}{st st':aQ}{b:Bool} (h0:0≤i) (h1:i≤t.length) (hk:¬(re.mn≤k∧i=f)) (hk0:0≤k) (jT:k≤10000000000000) (h:dU t F ah (.run (.mk 1 re (k+1) 0 nx) i c) st b st'):dU t F ah (.run (.mk 2 re k f nx) i c) st b st'
 |save {ah k f i:Int}{re:Re}{nx:Goal}{c:ar}{st st':aQ}{b:Bool} (h0:0≤i) (h1:i≤t.length) (h:dU t F ah (.run nx i (ku c re.n f i)) st b st'):dU t F ah (.run (.mk 3 re k f nx) i c) st b st'
 |here {ah k f i:Int}{re:Re}{nx:Goal}{c:ar}{st st':aQ}{b:Bool} (h0:0≤i) (h1:i≤t.length) (hi:i=f) (h:dU t F ah (.run nx i c) st b st'):dU t F ah (.run (.mk 4 re k f nx) i c) st b st'
 |gone {ah k f i:Int}{re:Re}{nx:Goal}{c:ar}{st:aQ} (h0:0≤i) (h1:i≤t.length) (hi:i≠f):dU t F ah (.run (.mk 4 re k f nx) i c) st false st
 |wB {ah k i:Int}{re:Re}{nx:Goal}{c:ar}{st x:aQ}{b:Bool} (hm:re.mode=2) (h:dU t F 1 (.run (.mk 1 (re.cq 0) 0 0 .nil) i c) st.sub b x) (hx:x.empty=true):dU t F ah (.rep re k nx i c) st true (st.lJ x)
 |AO {ah k i:Int}{re:Re}{nx:Goal}{c:ar}{st x:aQ}{b:Bool} (hm:re.mode=2) (h:dU t F 1 (.run (.mk 1 (re.cq 0) 0 0 .nil) i c) st.sub b x) (hx:x.empty=false) (he:x.ends=[]):dU t F ah (.rep re k nx i c) st false (st.lJ x)
 |wR {ah k i e:Int}{re:Re}{nx:Goal}{c d:ar}{le:List Int}{ld:List ar}{st x st':aQ}{b b':Bool} (hm:re.mode=2) (h:dU t F 1 (.run (.mk 1 (re.cq 0) 0 0 .nil) i c) st.sub b x) (hx:x.empty=false) (he:x.ends=e::le) (hd:x.ak=d::ld) (h2:dU t F ah (.run nx e d) (st.lJ x) b' st'):dU t F ah (.rep re k nx i c) st b' st'
 |AY {ah k i:Int}{re:Re}{nx:Goal}{c:ar}{st:aQ} (hm:re.mode≠2) (hs:0≤st.steps) (he:(st.step F).empty=true):dU t F ah (.rep re k nx i c) st true (st.step F)
 |BE {ah k i:Int}{re kid:Re}{l:List Re}{nx:Goal}{c:ar}{st st':aQ}{b:Bool} (hm:re.mode≠2) (hs:0≤st.steps) (he:(st.step F).empty=false) (dN:re.kids=kid::l) (hk:k<re.mn) (h:dU t F ah (.run (.mk 0 kid 0 0 (.mk 2 re k i nx)) i c) (st.step F) b st'):dU t F ah (.rep re k nx i c) st b st'
 |uu {ah k i:Int}{re kid:Re}{l:List Re}{nx:Goal}{c:ar}{st st':aQ}{b:Bool} (hm:re.mode≠2) (hs:0≤st.steps) (he:(st.step F).empty=false) (dN:re.kids=kid::l) (hk:¬k<re.mn) (hx:¬(re.mx=-1∨k<re.mx)) (h:dU t F ah (.run nx i c) (st.step F) b st'):dU t F ah (.rep re k nx i c) st b st'
 |FZ {ah k i:Int}{re kid:Re}{l:List Re}{nx:Goal}{c:ar}{st st':aQ} (hm:re.mode=1) (hs:0≤st.steps) (he:(st.step F).empty=false) (dN:re.kids=kid::l) (hk:¬k<re.mn) (hx:re.mx=-1∨k<re.mx) (h:dU t F ah (.run nx i c) (st.step F) true st'):dU t F ah (.rep re k nx i c) st true st'
 |F8 {ah k i:Int}{re kid:Re}{l:List Re}{nx:Goal}{c:ar}{st s2 st':aQ}{b:Bool} (hm:re.mode=1) (hs:0≤st.steps) (he:(st.step F).empty=false) (dN:re.kids=kid::l) (hk:¬k<re.mn) (hx:re.mx=-1∨k<re.mx) (h:dU t F ah (.run nx i c) (st.step F) false s2)
   (h2:dU t F ah (.run (.mk 0 kid 0 0 (.mk 2 re k i nx)) i c) s2 b st'):dU t F ah (.rep re k nx i c) st b st'
 |GG {ah k i:Int}{re kid:Re}{l:List Re}{nx:Goal}{c:ar}{st st':aQ} (hm:re.mode≠2) (rF:re.mode≠1) (hs:0≤st.steps) (he:(st.step F).empty=false) (dN:re.kids=kid::l) (hk:¬k<re.mn) (hx:re.mx=-1∨k<re.mx) (h:dU t F ah (.run (.mk 0 kid 0 0 (.mk 2 re k i nx)) i c) (st.step F) true st'):dU t F ah (.rep re k nx i c) st true st'
 |FY {ah k i:Int}{re kid:Re}{l:List Re}{nx:Goal}{c:ar}{st s2 st':aQ}{b:Bool} (hm:re.mode≠2) (rF:re.mode≠1) (hs:0≤st.steps) (he:(st.step F).empty=false) (dN:re.kids=kid::l) (hk:¬k<re.mn) (hx:re.mx=-1∨k<re.mx) (h:dU t F ah (.run (.mk 0 kid 0 0 (.mk 2 re k i nx)) i c) (st.step F) false s2)
   (h2:dU t F ah (.run nx i c) s2 b st'):dU t F ah (.rep re k nx i c) st b st'
 |wA {ah i:Int}{re:Re}{nx:Goal}{c:ar}{st st':aQ}{b:Bool} (ho:re.op=4) (h0:0≤i) (h1:i≤t.length) (h:dU t F ah (.rep re 0 nx i c) st b st'):dU t F ah (.node re nx i c) st b st'
 |wN {ah i:Int}{re:Re}{nx:Goal}{c:ar}{st:aQ} (ho:re.op≠4) (hs:0≤st.steps) (he:(st.step F).empty=true):dU t F ah (.node re nx i c) st true (st.step F)
 |node {ah i:Int}{re:Re}{nx:Goal}{c:ar}{st st':aQ}{b:Bool} (ho:re.op≠4) (hs:0≤st.steps) (he:(st.step F).empty=false) (h:dU t F ah (.body re nx i c) (st.step F) b st'):dU t F ah (.node re nx i c) st b st'
 |empty {ah i:Int}{re:Re}{nx:Goal}{c:ar}{st st':aQ}{b:Bool} (ho:re.op ∉ ([1,2,3,5,6,7,8,9,10,11]:List Int)) (h:dU t F ah (.run nx i c) st b st'):dU t F ah (.body re nx i c) st b st'
 |Bc {ah i:Int}{re:Re}{nx:Goal}{c:ar}{st st':aQ}{b:Bool} (ho:re.op=1) (hi:i<t.length) (hs:nn re.set (fX t i)=true) (h:dU t F ah (.run nx (i+1) c) st b st'):dU t F ah (.body re nx i c) st b st'
 |xK {ah i:Int}{re:Re}{nx:Goal}{c:ar}{st:aQ} (ho:re.op=1) (hn:¬(i<t.length∧nn re.set (fX t i)=true)):dU t F ah (.body re nx i c) st false st
 |cat {ah i:Int}{re:Re}{nx:Goal}{c:ar}{st st':aQ}{b:Bool} (ho:re.op=2) (h:dU t F ah (.run (iZ re.kids nx) i c) st b st'):dU t F ah (.body re nx i c) st b st'
 |alt {ah i:Int}{re:Re}{nx:Goal}{c:ar}{st st':aQ}{b:Bool} (ho:re.op=3) (h:dU t F ah (.alt re.kids nx i c) st b st'):dU t F ah (.body re nx i c) st b st'
 |Bk {ah i:Int}{nx:Goal}{c:ar}{st:aQ}:dU t F ah (.alt [] nx i c) st false st
 |LP {ah i:Int}{kid:Re}{l:List Re}{nx:Goal}{c:ar}{st st':aQ} (h:dU t F ah (.run (.mk 0 kid 0 0 nx) i c) st true st'):dU t F ah (.alt (kid::l) nx i c) st true st'
 |EI {ah i:Int}{kid:Re}{l:List Re}{nx:Goal}{c:ar}{st s2 st':aQ}{b:Bool} (h:dU t F ah (.run (.mk 0 kid 0 0 nx) i c) st false s2) (h2:dU t F ah (.alt l nx i c) s2 b st'):dU t F ah (.alt (kid::l) nx i c) st b st'
 |cap {ah i:Int}{re kid:Re}{l:List Re}{nx:Goal}{c:ar}{st st':aQ}{b:Bool} (ho:re.op=5) (dN:re.kids=kid::l) (h:dU t F ah (.run (.mk 0 kid 0 0 (.mk 3 re 0 i nx)) i c) st b st'):dU t F ah (.body re nx i c) st b st'
 |wH {ah i:Int}{re:Re}{nx:Goal}{c:ar}{st:aQ} (ho:re.op=6) (hx:(bm c re.n).1<0):dU t F ah (.body re nx i c) st false st
 |wD {ah i:Int}{re:Re}{nx:Goal}{c:ar}{st:aQ} (ho:re.op=6) (hx:¬(bm c re.n).1<0) (eU:¬(bm c re.n).2<(bm c re.n).1) (h2:(bm c re.n).2≤t.length) (hl:t.length<i+(bm c re.n).2-(bm c re.n).1):dU t F ah (.body re nx i c) st false st
 |pe {ah i:Int}{re:Re}{nx:Goal}{c:ar}{st st':aQ}{b:Bool} (ho:re.op=6) (hx:¬(bm c re.n).1<0) (eU:¬(bm c re.n).2<(bm c re.n).1) (h2:(bm c re.n).2≤t.length) (hl:¬t.length<i+(bm c re.n).2-(bm c re.n).1) (hs:cW t (bm c re.n).1 i ((bm c re.n).2-(bm c re.n).1).toNat=true)
   (h:dU t F ah (.run nx (i+(bm c re.n).2-(bm c re.n).1) c) st b st'):dU t F ah (.body re nx i c) st b st'
 |vg {ah i:Int}{re:Re}{nx:Goal}{c:ar}{st:aQ} (ho:re.op=6) (hx:¬(bm c re.n).1<0) (eU:¬(bm c re.n).2<(bm c re.n).1) (h2:(bm c re.n).2≤t.length) (hl:¬t.length<i+(bm c re.n).2-(bm c re.n).1) (hs:cW t (bm c re.n).1 i ((bm c re.n).2-(bm c re.n).1).toNat=false):dU t F ah (.body re nx i c) st false st
 |sM {ah i:Int}{re kid:Re}{l:List Re}{nx:Goal}{c:ar}{st x:aQ}{b:Bool} (ho:re.op=7) (dN:re.kids=kid::l) (h:dU t F 1 (.run (.mk 0 kid 0 0 .nil) i c) st.sub b x) (hx:x.empty=true):dU t F ah (.body re nx i c) st true (st.lJ x)
 |wU {ah i:Int}{re kid:Re}{l:List Re}{nx:Goal}{c:ar}{st x:aQ}{b:Bool} (ho:re.op=7) (dN:re.kids=kid::l) (h:dU t F 1 (.run (.mk 0 kid 0 0 .nil) i c) st.sub b x) (hx:x.empty=false) (he:x.ends=[]) (hn:re.neg=false):dU t F ah (.body re nx i c) st false (st.lJ x)
 |nW {ah i:Int}{re kid:Re}{l:List Re}{nx:Goal}{c:ar}{st x st':aQ}{b b':Bool} (ho:re.op=7) (dN:re.kids=kid::l) (h:dU t F 1 (.run (.mk 0 kid 0 0 .nil) i c) st.sub b x) (hx:x.empty=false) (he:x.ends=[]) (hn:re.neg=true) (h2:dU t F ah (.run nx i c) (st.lJ x) b' st'):dU t F ah (.body re nx i c) st b' st'
 |tL {ah i e:Int}{re kid:Re}{l:List Re}{nx:Goal}{c d:ar}{le:List Int}{ld:List ar}{st x st':aQ}{b b':Bool} (ho:re.op=7) (dN:re.kids=kid::l) (h:dU t F 1 (.run (.mk 0 kid 0 0 .nil) i c) st.sub b x) (hx:x.empty=false) (he:x.ends=e::le) (hd:x.ak=d::ld) (hn:re.neg=false) (h2:dU t F ah (.run nx i d) (st.lJ x) b' st'):dU t F ah (.body re nx i c) st b' st'
 |mT {ah i e:Int}{re kid:Re}{l:List Re}{nx:Goal}{c d:ar}{le:List Int}{ld:List ar}{st x:aQ}{b:Bool} (ho:re.op=7) (dN:re.kids=kid::l) (h:dU t F 1 (.run (.mk 0 kid 0 0 .nil) i c) st.sub b x) (hx:x.empty=false) (he:x.ends=e::le) (hd:x.ak=d::ld) (hn:re.neg=true):dU t F ah (.body re nx i c) st false (st.lJ x)
 |behind {ah i:Int}{re kid:Re}{l:List Re}{nx:Goal}{c:ar}{st st':aQ}{b:Bool} (ho:re.op=8) (dN:re.kids=kid::l) (he:st.empty=false) (h:dU t F ah (.behind re kid nx i c (i.toNat+1)) st b st'):dU t F ah (.body re nx i c) st b st'
 |ML {ah i:Int}{re kid:Re}{nx:Goal}{c:ar}{st:aQ} (hn:re.neg=false):dU t F ah (.behind re kid nx i c 0) st false st
 |wM {ah i:Int}{re kid:Re}{nx:Goal}{c:ar}{st st':aQ}{b:Bool} (hn:re.neg=true) (h:dU t F ah (.run nx i c) st b st'):dU t F ah (.behind re kid nx i c 0) st b st'
 |GH {ah i:Int}{j:Nat}{re kid:Re}{nx:Goal}{c:ar}{st x:aQ}{b:Bool} (h:dU t F 1 (.run (.mk 0 kid 0 0 (xX i)) j c) st.sub b x) (hx:x.empty=true):dU t F ah (.behind re kid nx i c (j+1)) st true (st.lJ x)
 |GB {ah i e:Int}{j:Nat}{re kid:Re}{nx:Goal}{c d:ar}{le:List Int}{ld:List ar}{st x st':aQ}{b b':Bool} (h:dU t F 1 (.run (.mk 0 kid 0 0 (xX i)) j c) st.sub b x) (hx:x.empty=false) (he:x.ends=e::le) (hd:x.ak=d::ld) (hn:re.neg=false) (h2:dU t F ah (.run nx i d) (st.lJ x) b' st'):dU t F ah (.behind re kid nx i c (j+1)) st b' st'
 |s7 {ah i e:Int}{j:Nat}{re kid:Re}{nx:Goal}{c d:ar}{le:List Int}{ld:List ar}{st x:aQ}{b:Bool} (h:dU t F 1 (.run (.mk 0 kid 0 0 (xX i)) j c) st.sub b x) (hx:x.empty=false) (he:x.ends=e::le) (hd:x.ak=d::ld) (hn:re.neg=true):dU t F ah (.behind re kid nx i c (j+1)) st false (st.lJ x)
 |AG {ah i:Int}{j:Nat}{re kid:Re}{nx:Goal}{c:ar}{st x st':aQ}{b b':Bool} (h:dU t F 1 (.run (.mk 0 kid 0 0 (xX i)) j c) st.sub b x) (hx:x.empty=false) (he:x.ends=[]) (h2:dU t F ah (.behind re kid nx i c j) (st.lJ x) b' st'):dU t F ah (.behind re kid nx i c (j+1)) st b' st'
 |wE {ah i:Int}{re kid:Re}{l:List Re}{nx:Goal}{c:ar}{st x:aQ}{b:Bool} (ho:re.op=9) (dN:re.kids=kid::l) (h:dU t F 1 (.run (.mk 0 kid 0 0 .nil) i c) st.sub b x) (hx:x.empty=true):dU t F ah (.body re nx i c) st true (st.lJ x)
 |AL {ah i:Int}{re kid:Re}{l:List Re}{nx:Goal}{c:ar}{st x:aQ}{b:Bool} (ho:re.op=9) (dN:re.kids=kid::l) (h:dU t F 1 (.run (.mk 0 kid 0 0 .nil) i c) st.sub b x) (hx:x.empty=false) (he:x.ends=[]):dU t F ah (.body re nx i c) st false (st.lJ x)
 |wT {ah i e:Int}{re kid:Re}{l:List Re}{nx:Goal}{c d:ar}{le:List Int}{ld:List ar}{st x st':aQ}{b b':Bool} (ho:re.op=9) (dN:re.kids=kid::l) (h:dU t F 1 (.run (.mk 0 kid 0 0 .nil) i c) st.sub b x) (hx:x.empty=false) (he:x.ends=e::le) (hd:x.ak=d::ld) (h2:dU t F ah (.run nx e d) (st.lJ x) b' st'):dU t F ah (.body re nx i c) st b' st'
 |cond {ah i:Int}{re yes no:Re}{l:List Re}{nx:Goal}{c:ar}{st st':aQ}{b:Bool} (ho:re.op=10) (dN:re.kids=yes::no::l) (h:dU t F ah (.run (.mk 0 (if 0≤(bm c re.n).1 then yes else no) 0 0 nx) i c) st b st'):dU t F ah (.body re nx i c) st b st'
 |qI {ah i:Int}{re:Re}{nx:Goal}{c:ar}{st st':aQ}{b:Bool} (ho:re.op=11) (hh:bO re.n t i=true) (h:dU t F ah (.run nx i c) st b st'):dU t F ah (.body re nx i c) st b st'
 |tv {ah i:Int}{re:Re}{nx:Goal}{c:ar}{st:aQ} (ho:re.op=11) (hh:bO re.n t i=false):dU t F ah (.body re nx i c) st false st
theorem lA {rec:Int→Task→aQ→Option (Bool×aQ)}{g:Goal}{i:Int}{c:ar}{st s2:aQ}{o:Option (Int×ar)} (h:bJ rec g i c st=some (o,s2)) :
  ∃b x,rec 1 (.run g i c) st.sub=some (b,x)∧s2=st.lJ x∧((x.empty=true∧o=none)∨(x.empty=false∧x.ends=[]∧o=none)∨(x.empty=false∧∃e le d ld,x.ends=e::le∧x.ak=d::ld∧o=some (e,d))):=by
 unfold bJ at h
 unfold aQ.sub aQ.lJ
 cases hx:rec 1 (.run g i c) ⟨st.steps,false,[],[]⟩ with
 |none=>rw[hx]at h;cases h
 |some y =>
  obtain⟨b,x⟩:=y
  rw[hx]at h
  simp only at h
  refine⟨b,x,rfl,?_⟩
  cases he:x.empty with
  |true =>
   rw[he,if_pos rfl]at h
   cases h
   exact⟨rfl,.inl ⟨rfl,rfl⟩⟩
  |false =>
   rw[he,if_neg Xe]at h
   cases hE:x.ends with
   |nil =>
    rw[hE]at h
    cases h
    exact⟨rfl,.inr (.inl ⟨rfl,rfl,rfl⟩)⟩
   |cons e le =>
    cases hD:x.ak with
    |nil=>rw[hE,hD]at h;cases h
    |cons d ld =>
     rw[hE,hD]at h
     cases h
     exact⟨rfl,.inr (.inr ⟨rfl,e,le,d,ld,rfl,rfl,rfl⟩)⟩
def Task.e:Task→ETask
 |.run g i c=>.run g i c
 |.rep (.mk _ re k _ nx) i c=>.rep re k nx i c
 |.rep .nil i c=>.alt [] .nil i c
 |.node (.mk _ re _ _ nx) i c=>.node re nx i c
 |.node .nil i c=>.alt [] .nil i c
section conv
variable {t:List Int}{F:Int}{rec:Int→Task→aQ→Option (Bool×aQ)} (dn:∀ah task st b st',rec ah task st=some (b,st')→dU t F ah task.e st b st')
include dn
theorem Bi {ah:Int}{nx:Goal}{i:Int}{c:ar}:∀(l:List Re) (st st':aQ) (b:Bool),iT (fun k st=>rec ah (.run (.mk 0 k 0 0 nx) i c) st) l st=some (b,st')→dU t F ah (.alt l nx i c) st b st'
 |[],st,st',b,h=>by simp only[iT]at h;cases h;exact .Bk
 |k::l,st,st',b,h=>by
  simp only[iT]at h
  cases hx:rec ah (.run (.mk 0 k 0 0 nx) i c) st with
  |none=>rw[hx]at h;cases h
  |some y =>
   obtain⟨b1,s2⟩:=y
   rw[hx]at h
   have h1:=dn _ _ _ _ _ hx
   cases b1 with
   |true=>simp only[jP]at h;cases h;exact .LP h1
   |false=>simp only[jP]at h;exact .EI h1 (Bi l s2 st' b h)
theorem xa {ah:Int}{re kid:Re}{nx:Goal}{i:Int}{c:ar}{b:Bool}{st':aQ}:∀(j:Nat) (st s2:aQ) (ro:Option ar),st.empty=false→bQ (fun k st=>bJ rec (.mk 0 kid 0 0 (xX i)) k c st) j st=some (ro,s2) →
  (if s2.empty then some (true,s2) else if re.neg=true then (match ro with|some _=>some (false,s2)|none=>rec ah (.run nx i c) s2) else match ro with|some d=>rec ah (.run nx i d) s2|none=>some (false,s2))=some (b,st')→dU t F ah (.behind re kid nx i c j) st b st'
 |0,st,s2,ro,he,hb,h=>by
  simp only[bQ]at hb
  cases hb
  rw[if_neg (by rw[he];exact Xe)]at h
  by_cases hn:re.neg=true
  ·rw[if_pos hn]at h;exact .wM hn (dn _ _ _ _ _ h)
  ·rw[if_neg hn]at h;cases h;exact .ML (by simpa using hn)
 |j+1,st,s2,ro,he,hb,h=>by
  simp only[bQ]at hb
  rw[if_neg (by rw[he];exact Xe)]at hb
  cases hf:bJ rec (.mk 0 kid 0 0 (xX i)) j c st with
  |none=>rw[hf]at hb;cases hb
  |some y =>
   obtain⟨o,s3⟩:=y
   rw[hf]at hb
   obtain⟨b1,x,k1,rfl,k2⟩:=lA hf
   have h1:=dn _ _ _ _ _ k1
   rcases k2 with ⟨e1,rfl⟩|⟨e1,e2,rfl⟩|⟨e1,e,le,d,ld,e2,e3,rfl⟩
   ·have Uk:(st.lJ x).empty=true:=e1
    simp only at hb
    have Ln:(ro,s2)=(none,st.lJ x):=by
     cases j with
     |zero=>simp only[bQ]at hb;exact(XN hb).symm
     |succ j=>simp only[bQ]at hb;rw[if_pos Uk]at hb;exact(XN hb).symm
    cases Ln
    rw[if_pos Uk]at h
    cases h
    exact .GH h1 e1
   ·simp only at hb
    exact .AG h1 e1 e2 (xa j _ s2 ro e1 hb h)
   ·simp only at hb
    cases hb
    rw[if_neg (by show ¬x.empty=true;rw[e1];exact Xe)]at h
    by_cases hn:re.neg=true
    ·rw[if_pos hn]at h;cases h;exact .s7 h1 e1 e2 e3 hn
    ·rw[if_neg hn]at h;exact .GB h1 e1 e2 e3 (by simpa using hn) (dn _ _ _ _ _ h)
theorem K9 {ah:Int}{re:Re}{nx:Goal}{i:Int}{c:ar}{st st':aQ}{b:Bool} (nX:st.empty=false) (h:cQ t rec ah re nx i c st=some (b,st')):dU t F ah (.body re nx i c) st b st':=by
 unfold cQ at h
 by_cases o1:re.op=1
 ·rw[if_pos o1]at h
  by_cases hc:i<t.length∧nn re.set (fX t i)=true
  ·rw[if_pos hc]at h;exact .Bc o1 hc.1 hc.2 (dn _ _ _ _ _ h)
  ·rw[if_neg hc]at h;cases h;exact .xK o1 hc
 rw[if_neg o1]at h
 by_cases o2:re.op=2
 ·rw[if_pos o2]at h;exact .cat o2 (dn _ _ _ _ _ h)
 rw[if_neg o2]at h
 by_cases o3:re.op=3
 ·rw[if_pos o3]at h;exact .alt o3 (Bi dn _ _ _ _ h)
 rw[if_neg o3]at h
 by_cases o5:re.op=5
 ·rw[if_pos o5]at h
  cases hk:re.kids with
  |nil=>rw[hk]at h;cases h
  |cons k l=>rw[hk]at h;exact .cap o5 hk (dn _ _ _ _ _ h)
 rw[if_neg o5]at h
 by_cases o6:re.op=6
 ·rw[if_pos o6]at h
  simp only at h
  by_cases c1:(bm c re.n).1<0
  ·rw[if_pos c1]at h;cases h;exact .wH o6 c1
  rw[if_neg c1]at h
  by_cases c2:(bm c re.n).2<(bm c re.n).1∨(t.length:Int)<(bm c re.n).2
  ·rw[if_pos c2]at h;cases h
  rw[if_neg c2]at h
  by_cases c3:t.length<i+(bm c re.n).2-(bm c re.n).1
  ·rw[if_pos c3]at h;cases h;exact .wD o6 c1 (by omega) (by omega) c3
  rw[if_neg c3]at h
  by_cases c4:cW t (bm c re.n).1 i ((bm c re.n).2-(bm c re.n).1).toNat=true
  ·rw[if_pos c4]at h;exact .pe o6 c1 (by omega) (by omega) c3 c4 (dn _ _ _ _ _ h)
  ·rw[if_neg c4]at h;cases h;exact .vg o6 c1 (by omega) (by omega) c3 (by simpa using c4)
 rw[if_neg o6]at h
 by_cases o7:re.op=7∨re.op=8
 ·rw[if_pos o7]at h
  cases hk:re.kids with
  |nil=>rw[hk]at h;cases h
  |cons k l =>
   rw[hk]at h
   simp only at h
   cases hx:fS rec re.op k i c st with
   |none=>rw[hx]at h;cases h
   |some y =>
    obtain⟨ro,s2⟩:=y
    rw[hx]at h
    simp only at h
    unfold fS at hx
    by_cases p7:re.op=7
    ·rw[if_pos p7]at hx
     cases hf:bJ rec (.mk 0 k 0 0 .nil) i c st with
     |none=>rw[hf]at hx;cases hx
     |some z =>
      obtain⟨o,s3⟩:=z
      rw[hf]at hx
      cases hx
      obtain⟨b1,x,k1,rfl,k2⟩:=lA hf
      have h1:=dn _ _ _ _ _ k1
      rcases k2 with ⟨e1,rfl⟩|⟨e1,e2,rfl⟩|⟨e1,e,le,d,ld,e2,e3,rfl⟩
      ·rw[if_pos (show (st.lJ x).empty=true from e1)]at h
       cases h
       exact .sM p7 hk h1 e1
      ·rw[if_neg (by show ¬x.empty=true;rw[e1];exact Xe)]at h
       by_cases hn:re.neg=true
       ·rw[if_pos hn]at h;exact .nW p7 hk h1 e1 e2 hn (dn _ _ _ _ _ h)
       ·rw[if_neg hn]at h;cases h;exact .wU p7 hk h1 e1 e2 (by simpa using hn)
      ·rw[if_neg (by show ¬x.empty=true;rw[e1];exact Xe)]at h
       by_cases hn:re.neg=true
       ·rw[if_pos hn]at h;cases h;exact .mT p7 hk h1 e1 e2 e3 hn
       ·rw[if_neg hn]at h;exact .tL p7 hk h1 e1 e2 e3 (by simpa using hn) (dn _ _ _ _ _ h)
    ·rw[if_neg p7]at hx
     exact .behind (by omega) hk nX (xa dn _ _ _ _ nX hx h)
 rw[if_neg o7]at h
 by_cases o9:re.op=9
 ·rw[if_pos o9]at h
  cases hk:re.kids with
  |nil=>rw[hk]at h;cases h
  |cons k l =>
   rw[hk]at h
   simp only at h
   cases hf:bJ rec (.mk 0 k 0 0 .nil) i c st with
   |none=>rw[hf]at h;cases h
   |some z =>
    obtain⟨o,s3⟩:=z
    rw[hf]at h
    simp only at h
    obtain⟨b1,x,k1,rfl,k2⟩:=lA hf
    have h1:=dn _ _ _ _ _ k1
    rcases k2 with ⟨e1,rfl⟩|⟨e1,e2,rfl⟩|⟨e1,e,le,d,ld,e2,e3,rfl⟩
    ·rw[if_pos (show (st.lJ x).empty=true from e1)]at h
     cases h
     exact .wE o9 hk h1 e1
    ·rw[if_neg (by show ¬x.empty=true;rw[e1];exact Xe)]at h
     cases h
     exact .AL o9 hk h1 e1 e2
    ·rw[if_neg (by show ¬x.empty=true;rw[e1];exact Xe)]at h
     exact .wT o9 hk h1 e1 e2 e3 (dn _ _ _ _ _ h)
 rw[if_neg o9]at h
 by_cases oS:re.op=10
 ·rw[if_pos oS]at h
  match hk:re.kids with
  |[]=>rw[hk]at h;cases h
  |[_]=>rw[hk]at h;cases h
  |yes::no::l=>rw[hk]at h;exact .cond oS hk (dn _ _ _ _ _ h)
 rw[if_neg oS]at h
 by_cases rA:re.op=11
 ·rw[if_pos rA]at h
  by_cases q:bO re.n t i=true
  ·rw[if_pos q]at h;exact .qI rA q (dn _ _ _ _ _ h)
  ·rw[if_neg q]at h;cases h;exact .tv rA (by simpa using q)
 rw[if_neg rA]at h
 exact .empty (by simp;omega) (dn _ _ _ _ _ h)
theorem Ms {ah:Int}{re:Re}{k:Int}{nx:Goal}{i:Int}{c:ar}{st st':aQ}{b:Bool} (h:jA F rec ah re k nx i c st=some (b,st')):dU t F ah (.rep re k nx i c) st b st':=by
 unfold jA at h
 by_cases hm:re.mode=2
 ·rw[if_pos hm]at h
  cases hf:bJ rec (.mk 1 (re.cq 0) 0 0 .nil) i c st with
  |none=>rw[hf]at h;cases h
  |some z =>
   obtain⟨o,s3⟩:=z
   rw[hf]at h
   simp only at h
   obtain⟨b1,x,k1,rfl,k2⟩:=lA hf
   have h1:=dn _ _ _ _ _ k1
   rcases k2 with ⟨e1,rfl⟩|⟨e1,e2,rfl⟩|⟨e1,e,le,d,ld,e2,e3,rfl⟩
   ·simp only at h
    obtain⟨rfl,rfl⟩:=Prod.mk.inj (XN h)
    have:=dU.wB (ah:=ah) (k:=k) (nx:=nx) hm h1 e1
    rwa [← show (st.lJ x).empty=true from e1]at this
   ·simp only at h
    obtain⟨rfl,rfl⟩:=Prod.mk.inj (XN h)
    have:=dU.AO (ah:=ah) (k:=k) (nx:=nx) hm h1 e1 e2
    rwa [← show (st.lJ x).empty=false from e1]at this
   ·simp only at h
    exact .wR hm h1 e1 e2 e3 (dn _ _ _ _ _ h)
 rw[if_neg hm]at h
 by_cases hs:st.steps<0∨10000000000000<st.steps
 ·rw[if_pos hs]at h;cases h
 rw[if_neg hs]at h
 simp only at h
 have ij:0≤st.steps:=by omega
 by_cases he:(st.step F).empty=true
 ·rw[if_pos he]at h;cases h;exact .AY hm ij he
 rw[if_neg he]at h
 have he:(st.step F).empty=false:=by simpa using he
 cases hk:re.kids with
 |nil=>rw[hk]at h;cases h
 |cons kid l =>
  rw[hk]at h
  simp only at h
  by_cases c2:k<re.mn
  ·rw[if_pos c2]at h;exact .BE hm ij he hk c2 (dn _ _ _ _ _ h)
  rw[if_neg c2]at h
  by_cases m1:re.mode=1
  ·rw[if_pos m1]at h
   cases hx:rec ah (.run nx i c) (st.step F) with
   |none=>rw[hx]at h;cases h
   |some y =>
    obtain⟨b1,s2⟩:=y
    rw[hx]at h
    have h1:=dn _ _ _ _ _ hx
    by_cases cM:re.mx=-1∨k<re.mx
    ·cases b1 with
     |true=>simp only[jP]at h;cases h;exact .FZ m1 ij he hk c2 cM h1
     |false=>simp only[jP]at h;rw[if_pos cM]at h;exact .F8 m1 ij he hk c2 cM h1 (dn _ _ _ _ _ h)
    ·cases b1 with
     |true=>simp only[jP]at h;cases h;exact .uu hm ij he hk c2 cM h1
     |false=>simp only[jP]at h;rw[if_neg cM]at h;cases h;exact .uu hm ij he hk c2 cM h1
  ·rw[if_neg m1]at h
   by_cases cM:re.mx=-1∨k<re.mx
   ·rw[if_pos cM]at h
    cases hx:rec ah (.run (.mk 0 kid 0 0 (.mk 2 re k i nx)) i c) (st.step F) with
    |none=>rw[hx]at h;cases h
    |some y =>
     obtain⟨b1,s2⟩:=y
     rw[hx]at h
     have h1:=dn _ _ _ _ _ hx
     cases b1 with
     |true=>simp only[jP]at h;cases h;exact .GG hm m1 ij he hk c2 cM h1
     |false=>simp only[jP]at h;exact .FY hm m1 ij he hk c2 cM h1 (dn _ _ _ _ _ h)
   ·rw[if_neg cM]at h
    simp only[jP]at h
    exact .uu hm ij he hk c2 cM (dn _ _ _ _ _ h)
end conv
theorem Fa {t:List Int}{F:Int}:∀(n:Nat) (ah:Int) (task:Task) (st:aQ) (b:Bool) (st':aQ),dA t F n ah task st=some (b,st')→dU t F ah task.e st b st'
 |0,_,_,_,_,_,h=>by cases h
 |n+1,ah,task,st,b,st',h=>by
  have dn:=Fa (t:=t) (F:=F) n
  replace h:bI t F (dA t F n) ah task st=some (b,st'):=h
  cases task with
  |run g i c =>
   simp only[bI]at h
   split at h
   ·cases h
   rename_i hi
   have h0:0≤i:=by omega
   have h1:i≤t.length:=by omega
   cases g with
   |nil =>
    simp only at h
    split at h
    ·rename_i hl
     obtain⟨rfl,rfl⟩:=Prod.mk.inj (XN h)
     exact .found h0 h1 hl.2 hl.1
    ·cases h
   |mk kind re k f nx =>
    simp only at h
    by_cases k1:kind=1
    ·rw[if_pos k1]at h;subst k1;exact .Gm h0 h1 (dn _ _ _ _ _ h)
    rw[if_neg k1]at h
    by_cases k2:kind=2
    ·rw[if_pos k2]at h;subst k2
     by_cases q:re.mn≤k∧i=f
     ·rw[if_pos q]at h;cases h;exact .stay h0 h1 q.1 q.2
     rw[if_neg q]at h
     split at h
     ·cases h
     exact .iter h0 h1 q (by omega) (by omega) (dn _ _ _ _ _ h)
    rw[if_neg k2]at h
    by_cases k3:kind=3
    ·rw[if_pos k3]at h;subst k3
     split at h
     ·cases h
     exact .save h0 h1 (dn _ _ _ _ _ h)
    rw[if_neg k3]at h
    by_cases k4:kind=4
    ·rw[if_pos k4]at h;subst k4
     by_cases q:i=f
     ·rw[if_pos q]at h;exact .here h0 h1 q (dn _ _ _ _ _ h)
     ·rw[if_neg q]at h;cases h;exact .gone h0 h1 q
    rw[if_neg k4]at h
    exact .tree k1 k2 k3 k4 h0 h1 (dn _ _ _ _ _ h)
  |rep g i c =>
   simp only[bI]at h
   split at h
   ·cases h
   cases g with
   |nil=>cases h
   |mk kind re k f nx=>exact Ms dn h
  |node g i c =>
   simp only[bI]at h
   split at h
   ·cases h
   rename_i hi
   cases g with
   |nil=>cases h
   |mk kind re k f nx =>
    simp only at h
    by_cases o4:re.op=4
    ·rw[if_pos o4]at h;exact .wA o4 (by omega) (by omega) (dn _ _ _ _ _ h)
    rw[if_neg o4]at h
    split at h
    ·cases h
    split at h
    ·cases h
    rename_i hs
    have ij:0≤st.steps:=by omega
    by_cases he:(st.step F).empty=true
    ·rw[if_pos he]at h;cases h;exact .wN o4 ij he
    ·rw[if_neg he]at h
     have he:(st.step F).empty=false:=by simpa using he
     exact .node o4 ij he (K9 dn he h)
theorem dU.steps {t:List Int}{F ah:Int}{task:ETask}{st st':aQ}{b:Bool} (h:dU t F ah task st b st'):st.steps≤st'.steps:=by
 induction h <;> (try simp only[aQ.sub,aQ.lJ,aQ.step]at *) <;> omega
theorem dU.full {t:List Int}{F ah:Int}{task:ETask}{st st':aQ}{b:Bool} (h:dU t F ah task st b st'):st.empty=false→b=false→st'.empty=false:=by
 induction h with
 |found=>exact fun h _=>h
 |tree _ _ _ _ _ _ _ ih=>exact ih
 |Gm _ _ _ ih=>exact ih
 |stay=>exact fun h _=>h
 |iter _ _ _ _ _ _ ih=>exact ih
 |save _ _ _ ih=>exact ih
 |here _ _ _ _ ih=>exact ih
 |gone=>exact fun h _=>h
 |wB=>exact fun _ h=>by cases h
 |AO _ _ hx=>exact fun _ _=>hx
 |wR _ _ hx _ _ _ _ fR=>exact fun _ hb=>fR hx hb
 |AY=>exact fun _ h=>by cases h
 |BE _ _ he _ _ _ ih=>exact fun _ hb=>ih he hb
 |uu _ _ he _ _ _ _ ih=>exact fun _ hb=>ih he hb
 |FZ=>exact fun _ h=>by cases h
 |F8 _ _ he _ _ _ _ _ ih fR=>exact fun _ hb=>fR (ih he rfl) hb
 |GG=>exact fun _ h=>by cases h
 |FY _ _ _ he _ _ _ _ _ ih fR=>exact fun _ hb=>fR (ih he rfl) hb
 |wA _ _ _ _ ih=>exact ih
 |wN=>exact fun _ h=>by cases h
 |node _ _ he _ ih=>exact fun _ hb=>ih he hb
 |empty _ _ ih=>exact ih
 |Bc _ _ _ _ ih=>exact ih
 |xK=>exact fun h _=>h
 |cat _ _ ih=>exact ih
 |alt _ _ ih=>exact ih
 |Bk=>exact fun h _=>h
 |LP=>exact fun _ h=>by cases h
 |EI _ _ ih fR=>exact fun h hb=>fR (ih h rfl) hb
 |cap _ _ _ ih=>exact ih
 |wH=>exact fun h _=>h
 |wD=>exact fun h _=>h
 |pe _ _ _ _ _ _ _ ih=>exact ih
 |vg=>exact fun h _=>h
 |sM=>exact fun _ h=>by cases h
 |wU _ _ _ hx=>exact fun _ _=>hx
 |nW _ _ _ hx _ _ _ _ fR=>exact fun _ hb=>fR hx hb
 |tL _ _ _ hx _ _ _ _ _ fR=>exact fun _ hb=>fR hx hb
 |mT _ _ _ hx=>exact fun _ _=>hx
 |behind _ _ _ _ ih=>exact ih
 |ML=>exact fun h _=>h
 |wM _ _ ih=>exact ih
 |GH=>exact fun _ h=>by cases h
 |GB _ hx _ _ _ _ _ fR=>exact fun _ hb=>fR hx hb
 |s7 _ hx=>exact fun _ _=>hx
 |AG _ hx _ _ _ fR=>exact fun _ hb=>fR hx hb
 |wE=>exact fun _ h=>by cases h
 |AL _ _ _ hx=>exact fun _ _=>hx
 |wT _ _ _ hx _ _ _ _ fR=>exact fun _ hb=>fR hx hb
 |cond _ _ _ ih=>exact ih
 |qI _ _ _ ih=>exact ih
 |tv=>exact fun h _=>h
def Ext (st st':aQ):Prop:=∃new mg,st'.ends=st.ends++new∧st'.ak=st.ak++mg∧mg.length=new.length
theorem Ext.refl (st:aQ):Ext st st:=⟨[],[],by simp,by simp,rfl⟩
theorem Ext.trans {a b c:aQ} (h:Ext a b) (k:Ext b c):Ext a c:=by
 obtain⟨n1,m1,a1,a2,a3⟩:=h
 obtain⟨n2,m2,b1,b2,b3⟩:=k
 exact⟨n1++n2,m1++m2,by rw[b1,a1,Xx],by rw[b2,a2,Xx],by rw[W5,W5,a3,b3]⟩
theorem dU.all {t:List Int}{F ah:Int}{task:ETask}{st st':aQ}{b:Bool} (h:dU t F ah task st b st'):ah=-1→st.empty=false→st'.empty=false→b=false∧Ext st st':=by
 induction h with
 |found =>
  intro hm _ _
  subst hm
  exact⟨by simp,⟨_,_,rfl,rfl,rfl⟩⟩
 |tree _ _ _ _ _ _ _ ih=>exact ih
 |Gm _ _ _ ih=>exact ih
 |stay=>exact fun _ _ _=>⟨rfl,.refl _⟩
 |iter _ _ _ _ _ _ ih=>exact ih
 |save _ _ _ ih=>exact ih
 |here _ _ _ _ ih=>exact ih
 |gone=>exact fun _ _ _=>⟨rfl,.refl _⟩
 |wB _ _ hx=>exact fun _ _ h=>absurd (h.symm.trans hx) Xe
 |AO=>exact fun _ _ _=>⟨rfl,.refl _⟩
 |wR _ _ hx _ _ _ _ fR=>exact fun hm _ he=>fR hm hx he
 |AY _ _ he=>exact fun _ _ h=>absurd (h.symm.trans he) Xe
 |BE _ _ he _ _ _ ih=>exact fun hm _ h=>ih hm he h
 |uu _ _ he _ _ _ _ ih=>exact fun hm _ h=>ih hm he h
 |FZ _ _ he _ _ _ _ ih=>exact fun hm _ h=>absurd (ih hm he h).1 (by decide)
 |F8 _ _ he _ _ _ h1 _ ih fR =>
  intro hm _ h
  have s8:=h1.full he rfl
  have a:=ih hm he s8
  have b:=fR hm s8 h
  exact⟨b.1,a.2.trans b.2⟩
 |GG _ _ _ he _ _ _ _ ih=>exact fun hm _ h=>absurd (ih hm he h).1 (by decide)
 |FY _ _ _ he _ _ _ h1 _ ih fR =>
  intro hm _ h
  have s8:=h1.full he rfl
  have a:=ih hm he s8
  have b:=fR hm s8 h
  exact⟨b.1,a.2.trans b.2⟩
 |wA _ _ _ _ ih=>exact ih
 |wN _ _ he=>exact fun _ _ h=>absurd (h.symm.trans he) Xe
 |node _ _ he _ ih=>exact fun hm _ h=>ih hm he h
 |empty _ _ ih=>exact ih
 |Bc _ _ _ _ ih=>exact ih
 |xK=>exact fun _ _ _=>⟨rfl,.refl _⟩
 |cat _ _ ih=>exact ih
 |alt _ _ ih=>exact ih
 |Bk=>exact fun _ _ _=>⟨rfl,.refl _⟩
 |LP _ ih=>exact fun hm h1 h=>absurd (ih hm h1 h).1 (by decide)
 |EI h1 _ ih fR =>
  intro hm he h
  have s8:=h1.full he rfl
  have a:=ih hm he s8
  have b:=fR hm s8 h
  exact⟨b.1,a.2.trans b.2⟩
 |cap _ _ _ ih=>exact ih
 |wH=>exact fun _ _ _=>⟨rfl,.refl _⟩
 |wD=>exact fun _ _ _=>⟨rfl,.refl _⟩
 |pe _ _ _ _ _ _ _ ih=>exact ih
 |vg=>exact fun _ _ _=>⟨rfl,.refl _⟩
 |sM _ _ _ hx=>exact fun _ _ h=>absurd (h.symm.trans hx) Xe
 |wU=>exact fun _ _ _=>⟨rfl,.refl _⟩
 |nW _ _ _ hx _ _ _ _ fR=>exact fun hm _ h=>fR hm hx h
 |tL _ _ _ hx _ _ _ _ _ fR=>exact fun hm _ h=>fR hm hx h
 |mT=>exact fun _ _ _=>⟨rfl,.refl _⟩
 |behind _ _ _ _ ih=>exact ih
 |ML=>exact fun _ _ _=>⟨rfl,.refl _⟩
 |wM _ _ ih=>exact ih
 |GH _ hx=>exact fun _ _ h=>absurd (h.symm.trans hx) Xe
 |GB _ hx _ _ _ _ _ fR=>exact fun hm _ h=>fR hm hx h
 |s7=>exact fun _ _ _=>⟨rfl,.refl _⟩
 |AG _ hx _ _ _ fR=>exact fun hm _ h=>fR hm hx h
 |wE _ _ _ hx=>exact fun _ _ h=>absurd (h.symm.trans hx) Xe
 |AL=>exact fun _ _ _=>⟨rfl,.refl _⟩
 |wT _ _ _ hx _ _ _ _ fR=>exact fun hm _ h=>fR hm hx h
 |cond _ _ _ ih=>exact ih
 |qI _ _ _ ih=>exact ih
 |tv=>exact fun _ _ _=>⟨rfl,.refl _⟩
inductive Shape (t:List Int) (rec:Int→Task→aQ→Option (Bool×aQ)) (X:Int→Option (Bool×aQ)) (st:aQ):Prop where
 |xm (b:Bool) (s:aQ) (h:∀m,X m=some (b,s)) (he:b=s.empty) (h1:s.ends=st.ends) (h2:s.ak=st.ak)
 |on (task:Task) (s:aQ) (h:∀m,X m=rec m task s) (he:s.empty=false) (h1:s.ends=st.ends) (h2:s.ak=st.ak)
 |alts (l:List Re) (nx:Goal) (i:Int) (c:ar) (h:∀m,X m=iT (fun k st=>rec m (.run (.mk 0 k 0 0 nx) i c) st) l st)
theorem iO {rec:Int→Task→aQ→Option (Bool×aQ)}{g:Goal}{i:Int}{c:ar}{st s2:aQ}{o:Option (Int×ar)} (h:bJ rec g i c st=some (o,s2)):s2.ends=st.ends∧s2.ak=st.ak∧(s2.empty=true→o=none):=by
 obtain⟨b,x,_,rfl,h3⟩:=lA h
 refine⟨rfl,rfl,fun he=>?_⟩
 rcases h3 with ⟨_,h⟩|⟨_,_,h⟩|⟨hx,_⟩
 ·exact h
 ·exact h
 ·rw[show x.empty=true from he]at hx;cases hx
theorem sX {f:Int→aQ→Option (Option (Int×ar)×aQ)} (hf:∀k st o s2,f k st=some (o,s2)→s2.ends=st.ends∧s2.ak=st.ak):∀(j:Nat) (st s2:aQ) (r:Option ar),bQ f j st=some (r,s2)→s2.ends=st.ends∧s2.ak=st.ak
 |0,st,s2,r,h=>by simp only[bQ]at h;cases h;exact⟨rfl,rfl⟩
 |j+1,st,s2,r,h=>by
  simp only[bQ]at h
  split at h
  ·cases h;exact⟨rfl,rfl⟩
  ·cases hx:f j st with
   |none=>rw[hx]at h;cases h
   |some y =>
    obtain⟨o,s3⟩:=y
    rw[hx]at h
    have h1:=hf _ _ _ _ hx
    cases o with
    |none =>
     simp only at h
     have h2:=sX hf j s3 s2 r h
     exact⟨h2.1.trans h1.1,h2.2.trans h1.2⟩
    |some z=>simp only at h;cases h;exact h1
theorem FL {t:List Int}{rec:Int→Task→aQ→Option (Bool×aQ)}{ah:Int}{re:Re}{nx:Goal}{i:Int}{c:ar}{st:aQ}{r:Bool×aQ} (he:st.empty=false) (h:cQ t rec ah re nx i c st=some r):Shape t rec (fun m=>cQ t rec m re nx i c st) st:=by
 unfold cQ at h ⊢
 by_cases o1:re.op=1
 ·simp only[if_pos o1]at h ⊢
  by_cases hc:i<t.length∧nn re.set (fX t i)=true
  ·simp only[if_pos hc];exact .on _ st (fun _=>rfl) he rfl rfl
  ·simp only[if_neg hc];exact .xm false st (fun _=>rfl) he.symm rfl rfl
 simp only[if_neg o1]at h ⊢
 by_cases o2:re.op=2
 ·simp only[if_pos o2];exact .on _ st (fun _=>rfl) he rfl rfl
 simp only[if_neg o2]at h ⊢
 by_cases o3:re.op=3
 ·simp only[if_pos o3];exact .alts _ _ _ _ (fun _=>rfl)
 simp only[if_neg o3]at h ⊢
 by_cases o5:re.op=5
 ·simp only[if_pos o5]at h ⊢
  cases hk:re.kids with
  |nil=>rw[hk]at h;cases h
  |cons k l=>exact .on _ st (fun _=>rfl) he rfl rfl
 simp only[if_neg o5]at h ⊢
 by_cases o6:re.op=6
 ·simp only[if_pos o6]at h ⊢
  by_cases c1:(bm c re.n).1<0
  ·simp only[if_pos c1];exact .xm false st (fun _=>rfl) he.symm rfl rfl
  simp only[if_neg c1]at h ⊢
  by_cases c2:(bm c re.n).2<(bm c re.n).1∨(t.length:Int)<(bm c re.n).2
  ·rw[if_pos c2]at h;cases h
  simp only[if_neg c2]at h ⊢
  by_cases c3:t.length<i+(bm c re.n).2-(bm c re.n).1
  ·simp only[if_pos c3];exact .xm false st (fun _=>rfl) he.symm rfl rfl
  simp only[if_neg c3]at h ⊢
  by_cases c4:cW t (bm c re.n).1 i ((bm c re.n).2-(bm c re.n).1).toNat=true
  ·simp only[if_pos c4];exact .on _ st (fun _=>rfl) he rfl rfl
  ·simp only[if_neg c4];exact .xm false st (fun _=>rfl) he.symm rfl rfl
 simp only[if_neg o6]at h ⊢
 by_cases o7:re.op=7∨re.op=8
 ·simp only[if_pos o7]at h ⊢
  cases hk:re.kids with
  |nil=>rw[hk]at h;cases h
  |cons k l =>
   rw[hk]at h
   simp only at h ⊢
   cases hx:fS rec re.op k i c st with
   |none=>rw[hx]at h;cases h
   |some y =>
    obtain⟨ro,s2⟩:=y
    have BW:s2.ends=st.ends∧s2.ak=st.ak:=by
     unfold fS at hx
     split at hx
     ·cases hf:bJ rec (.mk 0 k 0 0 .nil) i c st with
      |none=>rw[hf]at hx;cases hx
      |some z =>
       obtain⟨o,s3⟩:=z
       rw[hf]at hx
       cases hx
       exact⟨(iO hf).1,(iO hf).2.1⟩
     ·exact sX (fun k st o s2 h=>⟨(iO h).1,(iO h).2.1⟩) _ _ _ _ hx
    simp only
    by_cases e2:s2.empty=true
    ·simp only[if_pos e2];exact .xm true s2 (fun _=>rfl) e2.symm BW.1 BW.2
    have Oy:s2.empty=false:=by simpa using e2
    simp only[if_neg e2]
    by_cases hn:re.neg=true
    ·simp only[if_pos hn]
     cases ro with
     |none=>exact .on _ s2 (fun _=>rfl) Oy BW.1 BW.2
     |some d=>exact .xm false s2 (fun _=>rfl) Oy.symm BW.1 BW.2
    ·simp only[if_neg hn]
     cases ro with
     |none=>exact .xm false s2 (fun _=>rfl) Oy.symm BW.1 BW.2
     |some d=>exact .on _ s2 (fun _=>rfl) Oy BW.1 BW.2
 simp only[if_neg o7]at h ⊢
 by_cases o9:re.op=9
 ·simp only[if_pos o9]at h ⊢
  cases hk:re.kids with
  |nil=>rw[hk]at h;cases h
  |cons k l =>
   rw[hk]at h
   simp only at h ⊢
   cases hf:bJ rec (.mk 0 k 0 0 .nil) i c st with
   |none=>rw[hf]at h;cases h
   |some z =>
    obtain⟨o,s2⟩:=z
    obtain⟨f1,f2,_⟩:=iO hf
    simp only
    by_cases e2:s2.empty=true
    ·simp only[if_pos e2];exact .xm true s2 (fun _=>rfl) e2.symm f1 f2
    have Oy:s2.empty=false:=by simpa using e2
    simp only[if_neg e2]
    cases o with
    |none=>exact .xm false s2 (fun _=>rfl) Oy.symm f1 f2
    |some x=>exact .on _ s2 (fun _=>rfl) Oy f1 f2
 simp only[if_neg o9]at h ⊢
 by_cases oS:re.op=10
 ·simp only[if_pos oS]at h ⊢
  match hk:re.kids with
  |[]=>rw[hk]at h;cases h
  |[_]=>rw[hk]at h;cases h
  |yes::no::l=>exact .on _ st (fun _=>rfl) he rfl rfl
 simp only[if_neg oS]at h ⊢
 by_cases rA:re.op=11
 ·simp only[if_pos rA]at h ⊢
  by_cases q:bO re.n t i=true
  ·simp only[if_pos q];exact .on _ st (fun _=>rfl) he rfl rfl
  ·simp only[if_neg q];exact .xm false st (fun _=>rfl) he.symm rfl rfl
 simp only[if_neg rA]at h ⊢
 exact .on _ st (fun _=>rfl) he rfl rfl
def MD (N:Nat) (st':aQ) (o:Option (Bool×aQ)):Prop :=
 (st'.ends.length<N∧o=some (false,st'))∨(N≤st'.ends.length∧∃s2,o=some (true,s2)∧s2.empty=false∧s2.steps≤st'.steps∧s2.ends=st'.ends.take N∧s2.ak=st'.ak.take N)
theorem Cd {α:Type}{l new:List α}{N:Nat} (h:N≤l.length):(l++new).take N=l.take N:=by rw[List.take_append_of_le_length h]
theorem AI {N:Nat}{a a':Option (Bool×aQ)}{k k':aQ→Option (Bool×aQ)}{st st':aQ}{b:Bool} (fC:st.ak.length=st.ends.length) (QV:st.empty=false)
  (ha0:∀b1 s1,a=some (b1,s1)→s1.empty=false→b1=false∧Ext st s1) (Qd:∀s1,a=some (false,s1)→s1.empty=false) (ha:∀s1,a=some (false,s1)→s1.empty=false→MD N s1 a')
  (hk0:∀s1 b2 s2,k s1=some (b2,s2)→s1.empty=false→s2.empty=false→b2=false∧Ext s1 s2∧s1.steps≤s2.steps)
  (hk:∀s1 s2,k s1=some (false,s2)→s1.empty=false→s2.empty=false→s1.ends.length<N→s1.ak.length=s1.ends.length→MD N s2 (k' s1)) (h:jP a k=some (b,st')) (he:st'.empty=false):MD N st' (jP a' k'):=by
 cases hx:a with
 |none=>rw[hx]at h;cases h
 |some y =>
  obtain⟨b1,s1⟩:=y
  rw[hx]at h
  cases b1 with
  |true =>
   simp only[jP]at h
   obtain⟨rfl,rfl⟩:=Prod.mk.inj (XN h)
   exact absurd (ha0 _ _ hx he).1 (by decide)
  |false =>
   simp only[jP]at h
   have jK:=Qd _ hx
   obtain⟨_,new,mg,n1,n2,n3⟩:=ha0 _ _ hx jK
   have PW:s1.ak.length=s1.ends.length:=by rw[n1,n2,W5,W5,n3,fC]
   obtain⟨rfl,⟨Ra,NB,m1,m2,m3⟩,aW⟩:=hk0 _ _ _ h jK he
   rcases ha _ hx jK with ⟨c1,c2⟩|⟨c1,s2,c2,c3,c4,c5,c6⟩
   ·rw[c2]
    simp only[jP]
    exact hk _ _ h jK he c1 PW
   ·rw[c2]
    simp only[jP]
    exact .inr ⟨by rw[m1,W5];omega,s2,rfl,c3,by omega,by rw[c5,m1,Cd c1],by rw[c6,m2,Cd (by omega)]⟩
section U9
variable {t:List Int}{F:Int}{N:Nat}{rec:Int→Task→aQ→Option (Bool×aQ)} (dn:∀task st b st',rec (-1) task st=some (b,st')→st.empty=false→st'.empty=false→st.ends.length<N→st.ak.length=st.ends.length→MD N st' (rec N task st)) (eX:∀ah task st b st',rec ah task st=some (b,st')→dU t F ah task.e st b st')
include dn eX
theorem Gq {nx:Goal}{i:Int}{c:ar}:∀(l:List Re) (st st':aQ) (b:Bool),iT (fun k st=>rec (-1) (.run (.mk 0 k 0 0 nx) i c) st) l st=some (b,st')→st.empty=false→st'.empty=false→st.ends.length<N→st.ak.length=st.ends.length →
  MD N st' (iT (fun k st=>rec N (.run (.mk 0 k 0 0 nx) i c) st) l st)
 |[],st,st',b,h,he,lH,hN,hc=>by
  simp only[iT]at h ⊢
  obtain⟨_,rfl⟩:=Prod.mk.inj (XN h)
  exact .inl ⟨hN,rfl⟩
 |kid::l,st,st',b,h,he,lH,hN,hc=>by
  simp only[iT]at h ⊢
  refine AI hc he (fun b1 s1 hx h1=>(eX _ _ _ _ _ hx).all rfl he h1) (fun s1 hx=>(eX _ _ _ _ _ hx).full he rfl) (fun s1 hx h1=>dn _ _ _ _ hx he h1 hN hc) (fun s1 b2 s2 hx h1 h2=>?_) (fun s1 s2 hx h1 h2 h3 h4=>Gq l s1 s2 false hx h1 h2 h3 h4) h lH
  have hE:=Bi (t:=t) (F:=F) (fun ah task st b st' h=>eX ah task st b st' h) l s1 s2 b2 hx
  exact⟨(hE.all rfl h1 h2).1,(hE.all rfl h1 h2).2,hE.steps⟩
theorem Lf {re:Re}{nx:Goal}{i:Int}{c:ar}{st st':aQ}{b:Bool} (h:cQ t rec (-1) re nx i c st=some (b,st')) (he:st.empty=false) (lH:st'.empty=false) (hN:st.ends.length<N) (hc:st.ak.length=st.ends.length):MD N st' (cQ t rec N re nx i c st):=by
 cases FL he h with
 |xm b0 s hX hb h1 h2 =>
  rw[hX (-1)]at h
  obtain⟨rfl,rfl⟩:=Prod.mk.inj (XN h)
  rw[hX N]
  rw[lH]at hb
  subst hb
  exact .inl ⟨by rw[h1];exact hN,rfl⟩
 |on task s hX hs h1 h2 =>
  rw[hX (-1)]at h
  rw[hX N]
  exact dn _ _ _ _ h hs lH (by rw[h1];exact hN) (by rw[h1,h2];exact hc)
 |alts l nx i c hX =>
  rw[hX (-1)]at h
  rw[hX N]
  exact Gq dn eX l st st' b h he lH hN hc
theorem MU {re:Re}{k:Int}{nx:Goal}{i:Int}{c:ar}{st st':aQ}{b:Bool} (h:jA F rec (-1) re k nx i c st=some (b,st')) (he:st.empty=false) (lH:st'.empty=false) (hN:st.ends.length<N) (hc:st.ak.length=st.ends.length):MD N st' (jA F rec N re k nx i c st):=by
 unfold jA at h ⊢
 by_cases hm:re.mode=2
 ·simp only[if_pos hm]at h ⊢
  cases hf:bJ rec (.mk 1 (re.cq 0) 0 0 .nil) i c st with
  |none=>rw[hf]at h;cases h
  |some z =>
   obtain⟨o,s3⟩:=z
   rw[hf]at h
   obtain⟨f1,f2,f3⟩:=iO hf
   simp only at h ⊢
   cases o with
   |none =>
    simp only at h ⊢
    obtain⟨rfl,rfl⟩:=Prod.mk.inj (XN h)
    rw[lH]
    exact .inl ⟨by rw[f1];exact hN,rfl⟩
   |some x =>
    obtain⟨e,d⟩:=x
    simp only at h ⊢
    have Vw:s3.empty=false:=by
     cases hh:s3.empty with
     |false=>rfl
     |true=>cases f3 hh
    exact dn _ _ _ _ h Vw lH (by rw[f1];exact hN) (by rw[f1,f2];exact hc)
 simp only[if_neg hm]at h ⊢
 by_cases hs:st.steps<0∨10000000000000<st.steps
 ·rw[if_pos hs]at h;cases h
 simp only[if_neg hs]at h ⊢
 by_cases nX:(st.step F).empty=true
 ·rw[if_pos nX]at h;cases h;rw[nX]at lH;cases lH
 simp only[if_neg nX]at h ⊢
 have nX:(st.step F).empty=false:=by simpa using nX
 have Np:(st.step F).ends.length<N:=hN
 have Eb:(st.step F).ak.length=(st.step F).ends.length:=hc
 cases hk:re.kids with
 |nil=>rw[hk]at h;cases h
 |cons kid l =>
  rw[hk]at h
  simp only at h ⊢
  have one:∀{task:Task}{s1 s2:aQ}{b2:Bool},rec (-1) task s1=some (b2,s2)→s1.empty=false→s2.empty=false→b2=false∧Ext s1 s2∧s1.steps≤s2.steps:=fun hx h1 h2=>by
   have hE:=eX _ _ _ _ _ hx
   exact⟨(hE.all rfl h1 h2).1,(hE.all rfl h1 h2).2,hE.steps⟩
  by_cases c2:k<re.mn
  ·simp only[if_pos c2]at h ⊢
   exact dn _ _ _ _ h nX lH Np Eb
  simp only[if_neg c2]at h ⊢
  by_cases m1:re.mode=1
  ·simp only[if_pos m1]at h ⊢
   by_cases cM:re.mx=-1∨k<re.mx
   ·simp only[if_pos cM]at h ⊢
    exact AI Eb nX (fun b1 s1 hx h1=>⟨(one hx nX h1).1,(one hx nX h1).2.1⟩) (fun s1 hx=>(eX _ _ _ _ _ hx).full nX rfl) (fun s1 hx h1=>dn _ _ _ _ hx nX h1 Np Eb) (fun s1 b2 s2 hx h1 h2=>one hx h1 h2) (fun s1 s2 hx h1 h2 h3 h4=>dn _ _ _ _ hx h1 h2 h3 h4) h lH
   ·simp only[if_neg cM]at h ⊢
    exact AI Eb nX (fun b1 s1 hx h1=>⟨(one hx nX h1).1,(one hx nX h1).2.1⟩) (fun s1 hx=>(eX _ _ _ _ _ hx).full nX rfl) (fun s1 hx h1=>dn _ _ _ _ hx nX h1 Np Eb)
     (fun s1 b2 s2 hx h1 h2=>by obtain⟨rfl,rfl⟩:=Prod.mk.inj (XN hx);exact⟨rfl,.refl _,WW _⟩) (fun s1 s2 hx h1 h2 h3 h4=>by obtain⟨_,rfl⟩:=Prod.mk.inj (XN hx);exact .inl ⟨h3,rfl⟩) h lH
  ·simp only[if_neg m1]at h ⊢
   by_cases cM:re.mx=-1∨k<re.mx
   ·simp only[if_pos cM]at h ⊢
    exact AI Eb nX (fun b1 s1 hx h1=>⟨(one hx nX h1).1,(one hx nX h1).2.1⟩) (fun s1 hx=>(eX _ _ _ _ _ hx).full nX rfl) (fun s1 hx h1=>dn _ _ _ _ hx nX h1 Np Eb) (fun s1 b2 s2 hx h1 h2=>one hx h1 h2) (fun s1 s2 hx h1 h2 h3 h4=>dn _ _ _ _ hx h1 h2 h3 h4) h lH
   ·simp only[if_neg cM,jP]at h ⊢
    exact dn _ _ _ _ h nX lH Np Eb
end U9
theorem yl {t:List Int}{F:Int}{N:Nat}:∀(n:Nat) (task:Task) (st:aQ) (b:Bool) (st':aQ),dA t F n (-1) task st=some (b,st')→st.empty=false→st'.empty=false→st.ends.length<N→st.ak.length=st.ends.length→MD N st' (dA t F n N task st)
 |0,_,_,_,_,h,_,_,_,_=>by cases h
 |n+1,task,st,b,st',h,he,lH,hN,hc=>by
  have dn:=yl (t:=t) (F:=F) (N:=N) n
  have eX:=Fa (t:=t) (F:=F) n
  replace h:bI t F (dA t F n) (-1) task st=some (b,st'):=h
  show MD N st' (bI t F (dA t F n) N task st)
  cases task with
  |run g i c =>
   simp only[bI]at h ⊢
   by_cases hi:i<0∨(t.length:Int)<i
   ·rw[if_pos hi]at h;cases h
   simp only[if_neg hi]at h ⊢
   cases g with
   |nil =>
    simp only at h ⊢
    by_cases hl:st.ends.length<2000000000000∧st.ak.length=st.ends.length
    ·simp only[if_pos hl]at h ⊢
     obtain⟨_,rfl⟩:=Prod.mk.inj (XN h)
     by_cases aS:(st.ends++[i]).length<N
     ·refine .inl ⟨aS,?_⟩
      have:decide ((N:Int)≤(st.ends.length:Int)+1)=false:=decide_eq_false (by rw[W5]at aS;simp at aS;omega)
      rw[this,Bool.and_false]
     ·have Wy:N=st.ends.length+1:=by rw[W5]at aS;simp at aS;omega
      refine .inr ⟨by show N≤(st.ends++[i]).length;omega,_,?_,lH,WW _,?_,?_⟩
      ·have h1:decide ((N:Int)≤(st.ends.length:Int)+1)=true:=decide_eq_true (by omega)
       have h0:decide ((0:Int)≤(N:Int))=true:=decide_eq_true (by omega)
       rw[h1,h0]
       rfl
      ·exact(Xv (by rw[W5];simp;omega)).symm
      ·exact(Xv (by rw[W5];simp;omega)).symm
    ·rw[if_neg hl]at h;cases h
   |mk kind re k f nx =>
    simp only at h ⊢
    by_cases k1:kind=1
    ·simp only[if_pos k1]at h ⊢;exact dn _ _ _ _ h he lH hN hc
    simp only[if_neg k1]at h ⊢
    by_cases k2:kind=2
    ·simp only[if_pos k2]at h ⊢
     by_cases q:re.mn≤k∧i=f
     ·simp only[if_pos q]at h ⊢
      obtain⟨_,rfl⟩:=Prod.mk.inj (XN h)
      exact .inl ⟨hN,rfl⟩
     simp only[if_neg q]at h ⊢
     by_cases q2:k<0∨10000000000000<k
     ·rw[if_pos q2]at h;cases h
     simp only[if_neg q2]at h ⊢
     exact dn _ _ _ _ h he lH hN hc
    simp only[if_neg k2]at h ⊢
    by_cases k3:kind=3
    ·simp only[if_pos k3]at h ⊢
     by_cases q2:1000000000<c.length
     ·rw[if_pos q2]at h;cases h
     simp only[if_neg q2]at h ⊢
     exact dn _ _ _ _ h he lH hN hc
    simp only[if_neg k3]at h ⊢
    by_cases k4:kind=4
    ·simp only[if_pos k4]at h ⊢
     by_cases q:i=f
     ·simp only[if_pos q]at h ⊢;exact dn _ _ _ _ h he lH hN hc
     ·simp only[if_neg q]at h ⊢
      obtain⟨_,rfl⟩:=Prod.mk.inj (XN h)
      exact .inl ⟨hN,rfl⟩
    simp only[if_neg k4]at h ⊢
    exact dn _ _ _ _ h he lH hN hc
  |rep g i c =>
   simp only[bI]at h ⊢
   by_cases hi:i<0∨(t.length:Int)<i
   ·rw[if_pos hi]at h;cases h
   simp only[if_neg hi]at h ⊢
   cases g with
   |nil=>cases h
   |mk kind re k f nx=>exact MU dn eX h he lH hN hc
  |node g i c =>
   simp only[bI]at h ⊢
   by_cases hi:i<0∨(t.length:Int)<i
   ·rw[if_pos hi]at h;cases h
   simp only[if_neg hi]at h ⊢
   cases g with
   |nil=>cases h
   |mk kind re k f nx =>
    simp only at h ⊢
    by_cases o4:re.op=4
    ·simp only[if_pos o4]at h ⊢;exact dn _ _ _ _ h he lH hN hc
    simp only[if_neg o4]at h ⊢
    by_cases q1:1000000000<re.set.length∨1000000000<re.kids.length∨1000000000<c.length
    ·rw[if_pos q1]at h;cases h
    simp only[if_neg q1]at h ⊢
    by_cases q2:st.steps<0∨10000000000000<st.steps
    ·rw[if_pos q2]at h;cases h
    simp only[if_neg q2]at h ⊢
    by_cases nX:(st.step F).empty=true
    ·rw[if_pos nX]at h;cases h;rw[nX]at lH;cases lH
    ·simp only[if_neg nX]at h ⊢
     exact Lf dn eX h (by simpa using nX) lH hN hc
def aQ.up (d:Int) (st:aQ):aQ:={ st with steps:=st.steps+d }
def SA {α:Type} (d:Int) (st st':aQ) (r:α) (o:Option (α×aQ)):Prop:=st.steps≤st'.steps∧(st'.steps+d≤10000000000000→o=some (r,st'.up d))
def TQ {α:Type} (o:Option (Option α×aQ)) (k:Option α→aQ→Option (Bool×aQ)):Option (Bool×aQ) :=
 match o with
 |none=>none
 |some (r,s)=>k r s
section shift
variable {t:List Int}{F d:Int}{rec rec':Int→Task→aQ→Option (Bool×aQ)}
theorem SA.no {α:Type}{r:α}{st:aQ}{o:Option (α×aQ)} (ho:o=some (r,st.up d)):SA d st st r o:=⟨WW _,fun _=>ho⟩
theorem My (st:aQ):(st.up d).step (F+d)=(st.step F).up d:=by
 have e1:st.steps+d+1=st.steps+1+d:=by omega
 have e2:decide (F+d<st.steps+d+1)=decide (F<st.steps+1):=decide_eq_decide.2 (by omega)
 unfold aQ.step aQ.up
 simp only[e1]
 rw[← e1,e2]
theorem GU {st s1 st':aQ}{b1 b:Bool}{a':Option (Bool×aQ)}{k k':aQ→Option (Bool×aQ)} (h1:SA d st s1 b1 a') (hr:jP (some (b1,s1)) k=some (b,st')) (hk:k s1=some (b,st')→SA d s1 st' b (k' (s1.up d))):SA d st st' b (jP a' k'):=by
 cases b1 with
 |true =>
  simp only[jP,WX,Xs]at hr
  obtain⟨rfl,rfl⟩:=hr
  exact⟨h1.1,fun hs=>by rw[h1.2 hs];rfl⟩
 |false =>
  obtain⟨k1,k2⟩:=hk hr
  have:=h1.1
  exact⟨by omega,fun hs=>by rw[h1.2 (by omega)];exact k2 hs⟩
theorem Ey {α:Type}{st s1 st':aQ}{b:Bool}{r:Option α}{o:Option (Option α×aQ)}{o2:Option (Bool×aQ)}{k':Option α→aQ→Option (Bool×aQ)} (h1:SA d st s1 r o) (ho:o2=TQ o k') (hk:SA d s1 st' b (k' r (s1.up d))):SA d st st' b o2:=by
 subst ho
 obtain⟨k1,k2⟩:=hk
 have:=h1.1
 exact⟨by omega,fun hs=>by rw[h1.2 (by omega)];exact k2 hs⟩
theorem zS {f f':Int→aQ→Option (Option (Int×ar)×aQ)} (hf:∀k st o s2,f k st=some (o,s2)→SA d st s2 o (f' k (st.up d))):∀(j:Nat) (st s2:aQ) (r:Option ar),bQ f j st=some (r,s2)→SA d st s2 r (bQ f' j (st.up d))
 |0,st,s2,r,hr=>by simp only[bQ]at hr;cases hr;exact .no rfl
 |j+1,st,s2,r,hr=>by
  simp only[bQ]at hr ⊢
  by_cases he:st.empty=true
  ·rw[if_pos he]at hr
   rw[if_pos (show (st.up d).empty=true from he)]
   cases hr
   exact .no rfl
  rw[if_neg he]at hr
  rw[if_neg (show ¬(st.up d).empty=true from he)]
  cases hx:f j st with
  |none=>rw[hx]at hr;cases hr
  |some y =>
   obtain⟨o,s1⟩:=y
   rw[hx]at hr
   obtain⟨a1,a2⟩:=hf _ _ _ _ hx
   cases o with
   |some p =>
    simp only at hr
    cases hr
    exact⟨a1,fun hs=>by rw[a2 hs]⟩
   |none =>
    simp only at hr
    obtain⟨k1,k2⟩:=zS hf j s1 s2 r hr
    exact⟨by omega,fun hs=>by rw[a2 (by omega)];exact k2 hs⟩
variable (h:∀ah task st b st',rec ah task st=some (b,st')→SA d st st' b (rec' ah task (st.up d)))
include h
theorem tV {g:Goal}{i:Int}{c:ar}{st s2:aQ}{o:Option (Int×ar)} (hr:bJ rec g i c st=some (o,s2)):SA d st s2 o (bJ rec' g i c (st.up d)):=by
 unfold bJ at hr
 cases hx:rec 1 (.run g i c) ⟨st.steps,false,[],[]⟩ with
 |none=>rw[hx]at hr;cases hr
 |some y =>
  obtain⟨b,x⟩:=y
  rw[hx]at hr
  simp only at hr
  obtain⟨a1,a2⟩:=h _ _ _ _ _ hx
  have aW:s2.steps=x.steps:=by
   split at hr
   ·cases hr;rfl
   ·split at hr
    ·cases hr;rfl
    ·cases hr;rfl
    ·cases hr
  refine⟨by rw[aW];exact a1,fun hs=>?_⟩
  rw[aW]at hs
  have e:bJ rec' g i c (st.up d)=match some (b,x.up d) with
   |none=>none
   |some (_,x)=>if x.empty then some (none,{ st with steps:=x.steps,empty:=x.empty }) else match x.ends,x.ak with
    |[],_=>some (none,{ st with steps:=x.steps,empty:=x.empty })
    |e::_,d::_=>some (some (e,d),{ st with steps:=x.steps,empty:=x.empty })
    |_::_,[]=>none:=by rw[← a2 hs];rfl
  rw[e]
  obtain⟨xs,xe,fD,lL⟩:=x
  cases xe with
  |true=>cases hr;rfl
  |false =>
   match fD,lL,hr with
   |[],_,hr=>cases hr;rfl
   |e::_,d::_,hr=>cases hr;rfl
   |_::_,[],hr=>cases hr
theorem Kx {g:Re→Task}{ah:Int}:∀(l:List Re) (st st':aQ) (b:Bool),iT (fun k st=>rec ah (g k) st) l st=some (b,st')→SA d st st' b (iT (fun k st=>rec' ah (g k) st) l (st.up d))
 |[],st,st',b,hr=>by simp only[iT]at hr ⊢;cases hr;exact .no rfl
 |k::l,st,st',b,hr=>by
  simp only[iT]at hr ⊢
  cases hx:rec ah (g k) st with
  |none=>rw[hx]at hr;cases hr
  |some y =>
   obtain⟨b1,s1⟩:=y
   rw[hx]at hr
   exact GU (h _ _ _ _ _ hx) hr fun hk=>Kx l s1 st' b hk
theorem MJ {ah:Int}{re:Re}{next:Goal}{i:Int}{c:ar}{st st':aQ}{b:Bool} (hr:cQ t rec ah re next i c st=some (b,st')):SA d st st' b (cQ t rec' ah re next i c (st.up d)):=by
 unfold cQ at hr ⊢
 have no:∀{b:Bool}{st':aQ},some (false,st)=some (b,st')→SA d st st' b (some (false,st.up d)):=by
  intro b st' hh;cases hh;exact .no rfl
 by_cases o1:re.op=1
 ·rw[if_pos o1]at hr ⊢
  by_cases q:i<t.length∧nn re.set (fX t i)=true
  ·rw[if_pos q]at hr ⊢;exact h _ _ _ _ _ hr
  ·rw[if_neg q]at hr ⊢;exact no hr
 rw[if_neg o1]at hr ⊢
 by_cases o2:re.op=2
 ·rw[if_pos o2]at hr ⊢;exact h _ _ _ _ _ hr
 rw[if_neg o2]at hr ⊢
 by_cases o3:re.op=3
 ·rw[if_pos o3]at hr ⊢
  exact Kx (g:=fun k=>.run (.mk 0 k 0 0 next) i c) h re.kids st st' b hr
 rw[if_neg o3]at hr ⊢
 by_cases o5:re.op=5
 ·rw[if_pos o5]at hr ⊢
  cases hk:re.kids with
  |nil=>rw[hk]at hr;cases hr
  |cons kid l=>rw[hk]at hr;exact h _ _ _ _ _ hr
 rw[if_neg o5]at hr ⊢
 by_cases o6:re.op=6
 ·rw[if_pos o6]at hr ⊢
  simp only at hr ⊢
  by_cases q1:(bm c re.n).1<0
  ·rw[if_pos q1]at hr ⊢;exact no hr
  rw[if_neg q1]at hr ⊢
  by_cases q2:(bm c re.n).2<(bm c re.n).1∨(t.length:Int)<(bm c re.n).2
  ·rw[if_pos q2]at hr;cases hr
  rw[if_neg q2]at hr ⊢
  by_cases q3:t.length<i+(bm c re.n).2-(bm c re.n).1
  ·rw[if_pos q3]at hr ⊢;exact no hr
  rw[if_neg q3]at hr ⊢
  by_cases q4:cW t (bm c re.n).1 i ((bm c re.n).2-(bm c re.n).1).toNat=true
  ·rw[if_pos q4]at hr ⊢;exact h _ _ _ _ _ hr
  ·rw[if_neg q4]at hr ⊢;exact no hr
 rw[if_neg o6]at hr ⊢
 by_cases o7:re.op=7∨re.op=8
 ·rw[if_pos o7]at hr ⊢
  cases hk:re.kids with
  |nil=>rw[hk]at hr;cases hr
  |cons kid l =>
   rw[hk]at hr
   simp only at hr ⊢
   cases hl:fS rec re.op kid i c st with
   |none=>rw[hl]at hr;cases hr
   |some y =>
    obtain⟨ro,s1⟩:=y
    rw[hl]at hr
    simp only at hr
    have PD:SA d st s1 ro (fS rec' re.op kid i c (st.up d)):=by
     unfold fS at hl ⊢
     by_cases p7:re.op=7
     ·rw[if_pos p7]at hl ⊢
      cases hf:bJ rec (.mk 0 kid 0 0 .nil) i c st with
      |none=>rw[hf]at hl;cases hl
      |some z =>
       obtain⟨o,s3⟩:=z
       rw[hf]at hl
       cases hl
       obtain⟨a1,a2⟩:=tV h hf
       exact⟨a1,fun hs=>by rw[a2 hs]⟩
     ·rw[if_neg p7]at hl ⊢
      exact zS (fun k st o s2 hf=>tV h hf) _ _ _ _ hl
    refine Ey (k':=fun r st'=>if st'.empty=true then some (true,st') else if re.neg=true then (match r with|some _=>some (false,st')|none=>rec' ah (.run next i c) st') else match r with|some d=>rec' ah (.run next i d) st'|none=>some (false,st')) PD ?_ ?_
    ·generalize fS rec' re.op kid i c (st.up d)=z;rcases z with _|⟨r,s⟩ <;> rfl
    ·try simp only
     by_cases jK:s1.empty=true
     ·rw[if_pos jK]at hr
      rw[if_pos (show (s1.up d).empty=true from jK)]
      cases hr;exact .no rfl
     rw[if_neg jK]at hr
     rw[if_neg (show ¬(s1.up d).empty=true from jK)]
     by_cases hn:re.neg=true
     ·rw[if_pos hn]at hr ⊢
      cases ro with
      |some d=>simp only at hr ⊢;cases hr;exact .no rfl
      |none=>exact h _ _ _ _ _ hr
     ·rw[if_neg hn]at hr ⊢
      cases ro with
      |some d=>exact h _ _ _ _ _ hr
      |none=>simp only at hr ⊢;cases hr;exact .no rfl
 rw[if_neg o7]at hr ⊢
 by_cases o9:re.op=9
 ·rw[if_pos o9]at hr ⊢
  cases hk:re.kids with
  |nil=>rw[hk]at hr;cases hr
  |cons kid l =>
   rw[hk]at hr
   simp only at hr ⊢
   cases hf:bJ rec (.mk 0 kid 0 0 .nil) i c st with
   |none=>rw[hf]at hr;cases hr
   |some y =>
    obtain⟨o,s1⟩:=y
    rw[hf]at hr
    simp only at hr
    refine Ey (k':=fun r st'=>if st'.empty=true then some (true,st') else match r with|some (e,d)=>rec' ah (.run next e d) st'|none=>some (false,st')) (tV h hf) ?_ ?_
    ·generalize bJ rec' (.mk 0 kid 0 0 .nil) i c (st.up d)=z;rcases z with _|⟨r,s⟩ <;> rfl
    ·try simp only
     by_cases jK:s1.empty=true
     ·rw[if_pos jK]at hr
      rw[if_pos (show (s1.up d).empty=true from jK)]
      cases hr;exact .no rfl
     rw[if_neg jK]at hr
     rw[if_neg (show ¬(s1.up d).empty=true from jK)]
     cases o with
     |some p=>exact h _ _ _ _ _ hr
     |none=>simp only at hr ⊢;cases hr;exact .no rfl
 rw[if_neg o9]at hr ⊢
 by_cases oS:re.op=10
 ·rw[if_pos oS]at hr ⊢
  match hk:re.kids with
  |[]=>rw[hk]at hr;cases hr
  |[_]=>rw[hk]at hr;cases hr
  |yes::Sv::l=>rw[hk]at hr;exact h _ _ _ _ _ hr
 rw[if_neg oS]at hr ⊢
 by_cases rA:re.op=11
 ·rw[if_pos rA]at hr ⊢
  by_cases q:bO re.n t i=true
  ·rw[if_pos q]at hr ⊢;exact h _ _ _ _ _ hr
  ·rw[if_neg q]at hr ⊢;exact no hr
 rw[if_neg rA]at hr ⊢
 exact h _ _ _ _ _ hr
omit h in
theorem xW {st st':aQ}{b:Bool}{K K':aQ→Option (Bool×aQ)} (d0:0≤d) (hr:(if st.steps<0∨10000000000000<st.steps then none else if (st.step F).empty=true then some (true,st.step F) else K (st.step F))=some (b,st')) (hk:K (st.step F)=some (b,st')→SA d (st.step F) st' b (K' ((st.step F).up d))) :
  SA d st st' b (if (st.up d).steps<0∨10000000000000<(st.up d).steps then none else if ((st.up d).step (F+d)).empty=true then some (true,(st.up d).step (F+d)) else K' ((st.up d).step (F+d))):=by
 by_cases c0:st.steps<0∨10000000000000<st.steps
 ·rw[if_pos c0]at hr;cases hr
 rw[if_neg c0]at hr
 rw[My]
 have e1:(st.up d).steps=st.steps+d:=rfl
 have hs:(st.step F).steps=st.steps+1:=rfl
 by_cases he:(st.step F).empty=true
 ·rw[if_pos he]at hr
  cases hr
  refine⟨by omega,fun hh=>?_⟩
  rw[if_neg (by omega),if_pos (show ((st.step F).up d).empty=true from he)]
 ·rw[if_neg he]at hr
  obtain⟨k1,k2⟩:=hk hr
  refine⟨by omega,fun hh=>?_⟩
  rw[if_neg (by omega),if_neg (show ¬((st.step F).up d).empty=true from he)]
  exact k2 hh
theorem NU (d0:0≤d) {ah:Int}{re:Re}{k:Int}{next:Goal}{i:Int}{c:ar}{st st':aQ}{b:Bool} (hr:jA F rec ah re k next i c st=some (b,st')):SA d st st' b (jA (F+d) rec' ah re k next i c (st.up d)):=by
 unfold jA at hr ⊢
 by_cases m2:re.mode=2
 ·rw[if_pos m2]at hr ⊢
  cases hf:bJ rec (.mk 1 (re.cq 0) 0 0 .nil) i c st with
  |none=>rw[hf]at hr;cases hr
  |some y =>
   obtain⟨o,s1⟩:=y
   rw[hf]at hr
   simp only at hr
   refine Ey (k':=fun r st'=>match r with|some (e,d)=>rec' ah (.run next e d) st'|none=>some (st'.empty,st')) (tV h hf) ?_ ?_
   ·generalize bJ rec' (.mk 1 (re.cq 0) 0 0 .nil) i c (st.up d)=z;rcases z with _|⟨r,s⟩ <;> rfl
   ·cases o with
    |some p=>exact h _ _ _ _ _ hr
    |none=>simp only at hr ⊢;cases hr;exact .no rfl
 rw[if_neg m2]at hr ⊢
 simp only at hr ⊢
 refine xW (K:=fun s1=>match re.kids with
   |[]=>none
   |kid::_=>if k<re.mn then rec ah (.run (.mk 0 kid 0 0 (.mk 2 re k i next)) i c) s1
    else if re.mode=1 then jP (rec ah (.run next i c) s1) (fun s=>if re.mx=-1∨k<re.mx then rec ah (.run (.mk 0 kid 0 0 (.mk 2 re k i next)) i c) s else some (false,s))
    else jP (if re.mx=-1∨k<re.mx then rec ah (.run (.mk 0 kid 0 0 (.mk 2 re k i next)) i c) s1 else some (false,s1)) (fun s=>rec ah (.run next i c) s))
  (K':=fun s1=>match re.kids with
   |[]=>none
   |kid::_=>if k<re.mn then rec' ah (.run (.mk 0 kid 0 0 (.mk 2 re k i next)) i c) s1
    else if re.mode=1 then jP (rec' ah (.run next i c) s1) (fun s=>if re.mx=-1∨k<re.mx then rec' ah (.run (.mk 0 kid 0 0 (.mk 2 re k i next)) i c) s else some (false,s))
    else jP (if re.mx=-1∨k<re.mx then rec' ah (.run (.mk 0 kid 0 0 (.mk 2 re k i next)) i c) s1 else some (false,s1)) (fun s=>rec' ah (.run next i c) s)) d0 hr (fun hk=>?_)
 generalize st.step F=s1 at *
 cases Hp:re.kids with
 |nil=>rw[Hp]at hk;cases hk
 |cons kid l =>
  rw[Hp]at hk
  simp only at hk ⊢
  by_cases c2:k<re.mn
  ·rw[if_pos c2]at hk ⊢;exact h _ _ _ _ _ hk
  rw[if_neg c2]at hk ⊢
  by_cases m1:re.mode=1
  ·rw[if_pos m1]at hk ⊢
   cases hx:rec ah (.run next i c) s1 with
   |none=>rw[hx]at hk;cases hk
   |some y =>
    obtain⟨b1,s2⟩:=y
    rw[hx]at hk
    refine GU (h _ _ _ _ _ hx) hk fun od=>?_
    by_cases cM:re.mx=-1∨k<re.mx
    ·rw[if_pos cM]at od ⊢;exact h _ _ _ _ _ od
    ·rw[if_neg cM]at od ⊢;cases od;exact .no rfl
  ·rw[if_neg m1]at hk ⊢
   by_cases cM:re.mx=-1∨k<re.mx
   ·rw[if_pos cM]at hk ⊢
    cases hx:rec ah (.run (.mk 0 kid 0 0 (.mk 2 re k i next)) i c) s1 with
    |none=>rw[hx]at hk;cases hk
    |some y =>
     obtain⟨b1,s2⟩:=y
     rw[hx]at hk
     exact GU (h _ _ _ _ _ hx) hk fun od=>h _ _ _ _ _ od
   ·rw[if_neg cM]at hk ⊢
    exact GU (SA.no (d:=d) rfl) hk fun od=>h _ _ _ _ _ od
end shift
theorem zH {t:List Int}{F d:Int} (d0:0≤d):∀(n:Nat) (ah:Int) (task:Task) (st:aQ) (b:Bool) (st':aQ),dA t F n ah task st=some (b,st')→SA d st st' b (dA t (F+d) n ah task (st.up d))
 |0,_,_,_,_,_,hr=>by cases hr
 |n+1,ah,task,st,b,st',hr=>by
  have ih:=zH (t:=t) (F:=F) d0 n
  have hr:bI t F (dA t F n) ah task st=some (b,st'):=hr
  show SA d st st' b (bI t (F+d) (dA t (F+d) n) ah task (st.up d))
  cases task with
  |run g i c =>
   simp only[bI]at hr ⊢
   by_cases c0:i<0∨(t.length:Int)<i
   ·rw[if_pos c0]at hr;cases hr
   rw[if_neg c0]at hr ⊢
   cases g with
   |nil =>
    simp only at hr ⊢
    split at hr
    ·rename_i hc
     cases hr
     exact⟨WW _,fun _=>by rw[if_pos (show (st.up d).ends.length<2000000000000∧(st.up d).ak.length=(st.up d).ends.length from hc)];rfl⟩
    ·cases hr
   |mk kind re k cT next =>
    simp only at hr ⊢
    by_cases k1:kind=1
    ·rw[if_pos k1]at hr ⊢;exact ih _ _ _ _ _ hr
    rw[if_neg k1]at hr ⊢
    by_cases k2:kind=2
    ·rw[if_pos k2]at hr ⊢
     by_cases q:re.mn≤k∧i=cT
     ·rw[if_pos q]at hr ⊢;cases hr;exact .no rfl
     ·rw[if_neg q]at hr ⊢
      by_cases q2:k<0∨10000000000000<k
      ·rw[if_pos q2]at hr;cases hr
      ·rw[if_neg q2]at hr ⊢;exact ih _ _ _ _ _ hr
    rw[if_neg k2]at hr ⊢
    by_cases k3:kind=3
    ·rw[if_pos k3]at hr ⊢
     by_cases q:1000000000<c.length
     ·rw[if_pos q]at hr;cases hr
     ·rw[if_neg q]at hr ⊢;exact ih _ _ _ _ _ hr
    rw[if_neg k3]at hr ⊢
    by_cases k4:kind=4
    ·rw[if_pos k4]at hr ⊢
     by_cases q:i=cT
     ·rw[if_pos q]at hr ⊢;exact ih _ _ _ _ _ hr
     ·rw[if_neg q]at hr ⊢;cases hr;exact .no rfl
    rw[if_neg k4]at hr ⊢
    exact ih _ _ _ _ _ hr
  |rep g i c =>
   simp only[bI]at hr ⊢
   by_cases c0:i<0∨(t.length:Int)<i
   ·rw[if_pos c0]at hr;cases hr
   rw[if_neg c0]at hr ⊢
   cases g with
   |nil=>cases hr
   |mk kind re k cT next=>exact NU ih d0 hr
  |node g i c =>
   simp only[bI]at hr ⊢
   by_cases c0:i<0∨(t.length:Int)<i
   ·rw[if_pos c0]at hr;cases hr
   rw[if_neg c0]at hr ⊢
   cases g with
   |nil=>cases hr
   |mk kind re k cT next =>
    simp only at hr ⊢
    by_cases o4:re.op=4
    ·rw[if_pos o4]at hr ⊢;exact ih _ _ _ _ _ hr
    rw[if_neg o4]at hr ⊢
    by_cases q1:1000000000<re.set.length∨1000000000<re.kids.length∨1000000000<c.length
    ·rw[if_pos q1]at hr;cases hr
    rw[if_neg q1]at hr ⊢
    exact xW (K:=fun s=>cQ t (dA t F n) ah re next i c s) (K':=fun s=>cQ t (dA t (F+d) n) ah re next i c s) d0 hr fun hk=>MJ ih hk
end Go.Proofs.YtmihcpdhcillaaaGreat
