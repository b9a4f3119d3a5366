/- A part of the proof. -/
import Derived.Test.YtjjfioalgbecmaaGreatOA23
set_option linter.unusedSimpArgs false
set_option linter.unusedVariables false
set_option maxRecDepth 100000
set_option maxHeartbeats 80000000
namespace Go.Proofs.YtjjfioalgbecmaaGreat
open Go.VL Go.Proofs.Tryz
inductive ETask where
 |run (g:Goal) (i:Int) (c:aC)
 |rep (re:Re) (k:Int) (nx:Goal) (i:Int) (c:aC)
 |node (re:Re) (nx:Goal) (i:Int) (c:aC)
 |body (re:Re) (nx:Goal) (i:Int) (c:aC)
 |alt (l:List Re) (nx:Goal) (i:Int) (c:aC)
 |behind (re aJ:Re) (nx:Goal) (i:Int) (c:aC) (j:Nat)
def bE.sub (st:bE):bE:=⟨st.steps,false,[],[]⟩
def bE.ET (st x:bE):bE:={ st with steps:=x.steps,empty:=x.empty }
def pV (i:Int):Goal:=.mk 4 (.mk 0 [] [] 0 0 0 0 false) 0 i .nil
inductive eW (t:List Int) (F:Int):Int->ETask->bE->Bool->bE->Prop where
 |found {ai:Int}{i:Int}{c:aC}{st:bE} (h0:0<=i) (h1:i<=t.length) (hl:st.aj.length=st.ends.length) (tc:st.ends.length<2000000000000):eW t F ai (.run .nil i c) st (decide (0<=ai)&&decide (ai<=(st.ends.length:Int)+1)) { st with ends:=st.ends++[i],aj:=st.aj++[c] }
 |tree {ai kind k f i:Int}{re:Re}{nx:Goal}{c:aC}{st st':bE}{b:Bool} (sY:kind≠1) (DH:kind≠2) (Ep:kind≠3) (hk4:kind≠4) (h0:0<=i) (h1:i<=t.length) (h:eW t F ai (.node re nx i c) st b st'):eW t F ai (.run (.mk kind re k f nx) i c) st b st'
 |YW {ai k f i:Int}{re:Re}{nx:Goal}{c:aC}{st st':bE}{b:Bool} (h0:0<=i) (h1:i<=t.length) (h:eW t F ai (.rep re k nx i c) st b st'):eW t F ai (.run (.mk 1 re k f nx) i c) st b st'
 |stay {ai k f i:Int}{re:Re}{nx:Goal}{c:aC}{st:bE} (h0:0<=i) (h1:i<=t.length) (hk:re.mn<=k) (hi:i=f):eW t F ai (.run (.mk 2 re k f nx) i c) st false st
 |iter {ai k f i:Int}{re:Re}{nx:Goal}{c:aC}{st st':bE}{b:Bool} (h0:0<=i) (h1:i<=t.length) (hk:¬(re.mn<=k/\i=f)) (jX:0<=k) (sY:k<=10000000000000) (h:eW t F ai (.run (.mk 1 re (k+1) 0 nx) i c) st b st'):eW t F ai (.run (.mk 2 re k f nx) i c) st b st'
 |save {ai k f i:Int}{re:Re}{nx:Goal}{c:aC}{st st':bE}{b:Bool} (h0:0<=i) (h1:i<=t.length) (h:eW t F ai (.run nx i (mR c re.n f i)) st b st'):eW t F ai (.run (.mk 3 re k f nx) i c) st b st'
 |here {ai k f i:Int}{re:Re}{nx:Goal}{c:aC}{st st':bE}{b:Bool} (h0:0<=i) (h1:i<=t.length) (hi:i=f) (h:eW t F ai (.run nx i c) st b st'):eW t F ai (.run (.mk 4 re k f nx) i c) st b st'
 |gone {ai k f i:Int}{re:Re}{nx:Goal}{c:aC}{st:bE} (h0:0<=i) (h1:i<=t.length) (hi:i≠f):eW t F ai (.run (.mk 4 re k f nx) i c) st false st
 |OZ {ai k i:Int}{re:Re}{nx:Goal}{c:aC}{st x:bE}{b:Bool} (hm:re.mode=2) (h:eW t F 1 (.run (.mk 1 (re.dJ 0) 0 0 .nil) i c) st.sub b x) (hx:x.empty=true):eW t F ai (.rep re k nx i c) st true (st.ET x)
 |UF {ai k i:Int}{re:Re}{nx:Goal}{c:aC}{st x:bE}{b:Bool} (hm:re.mode=2) (h:eW t F 1 (.run (.mk 1 (re.dJ 0) 0 0 .nil) i c) st.sub b x) (hx:x.empty=false) (he:x.ends=[]):eW t F ai (.rep re k nx i c) st false (st.ET x)
 |Qo {ai k i e:Int}{re:Re}{nx:Goal}{c d:aC}{le:List Int}{ld:List aC}{st x st':bE}{b b':Bool} (hm:re.mode=2) (h:eW t F 1 (.run (.mk 1 (re.dJ 0) 0 0 .nil) i c) st.sub b x) (hx:x.empty=false) (he:x.ends=e::le) (hd:x.aj=d::ld) (h2:eW t F ai (.run nx e d) (st.ET x) b' st'):eW t F ai (.rep re k nx i c) st b' st'
 |Ul {ai k i:Int}{re:Re}{nx:Goal}{c:aC}{st:bE} (hm:re.mode≠2) (hs:0<=st.steps) (he:(st.step F).empty=true):eW t F ai (.rep re k nx i c) st true (st.step F)
 |Uj {ai k i:Int}{re aJ:Re}{l:List Re}{nx:Goal}{c:aC}{st st':bE}{b:Bool} (hm:re.mode≠2) (hs:0<=st.steps) (he:(st.step F).empty=false) (dw:re.kids=aJ::l) (hk:k<re.mn) (h:eW t F ai (.run (.mk 0 aJ 0 0 (.mk 2 re k i nx)) i c) (st.step F) b st'):eW t F ai (.rep re k nx i c) st b st'
 |Iz {ai k i:Int}{re aJ:Re}{l:List Re}{nx:Goal}{c:aC}{st st':bE}{b:Bool} (hm:re.mode≠2) (hs:0<=st.steps) (he:(st.step F).empty=false) (dw:re.kids=aJ::l) (hk:¬k<re.mn) (hx:¬(re.mx=-1\/k<re.mx)) (h:eW t F ai (.run nx i c) (st.step F) b st'):eW t F ai (.rep re k nx i c) st b st'
 |MZ {ai k i:Int}{re aJ:Re}{l:List Re}{nx:Goal}{c:aC}{st st':bE} (hm:re.mode=1) (hs:0<=st.steps) (he:(st.step F).empty=false) (dw:re.kids=aJ::l) (hk:¬k<re.mn) (hx:re.mx=-1\/k<re.mx) (h:eW t F ai (.run nx i c) (st.step F) true st'):eW t F ai (.rep re k nx i c) st true st'
 |KS {ai k i:Int}{re aJ:Re}{l:List Re}{nx:Goal}{c:aC}{st s2 st':bE}{b:Bool} (hm:re.mode=1) (hs:0<=st.steps) (he:(st.step F).empty=false) (dw:re.kids=aJ::l) (hk:¬k<re.mn) (hx:re.mx=-1\/k<re.mx) (h:eW t F ai (.run nx i c) (st.step F) false s2)
   (h2:eW t F ai (.run (.mk 0 aJ 0 0 (.mk 2 re k i nx)) i c) s2 b st'):eW t F ai (.rep re k nx i c) st b st'
 |X7 {ai k i:Int}{re aJ:Re}{l:List Re}{nx:Goal}{c:aC}{st st':bE} (hm:re.mode≠2) (IB:re.mode≠1) (hs:0<=st.steps) (he:(st.step F).empty=false) (dw:re.kids=aJ::l) (hk:¬k<re.mn) (hx:re.mx=-1\/k<re.mx) (h:eW t F ai (.run (.mk 0 aJ 0 0 (.mk 2 re k i nx)) i c) (st.step F) true st'):eW t F ai (.rep re k nx i c) st true st'
 |YS {ai k i:Int}{re aJ:Re}{l:List Re}{nx:Goal}{c:aC}{st s2 st':bE}{b:Bool} (hm:re.mode≠2) (IB:re.mode≠1) (hs:0<=st.steps) (he:(st.step F).empty=false) (dw:re.kids=aJ::l) (hk:¬k<re.mn) (hx:re.mx=-1\/k<re.mx) (h:eW t F ai (.run (.mk 0 aJ 0 0 (.mk 2 re k i nx)) i c) (st.step F) false s2)
   (h2:eW t F ai (.run nx i c) s2 b st'):eW t F ai (.rep re k nx i c) st b st'
 |PT {ai i:Int}{re:Re}{nx:Goal}{c:aC}{st st':bE}{b:Bool} (ho:re.op=4) (h0:0<=i) (h1:i<=t.length) (h:eW t F ai (.rep re 0 nx i c) st b st'):eW t F ai (.node re nx i c) st b st'
 |Qi {ai i:Int}{re:Re}{nx:Goal}{c:aC}{st:bE} (ho:re.op≠4) (hs:0<=st.steps) (he:(st.step F).empty=true):eW t F ai (.node re nx i c) st true (st.step F)
 |node {ai i:Int}{re:Re}{nx:Goal}{c:aC}{st st':bE}{b:Bool} (ho:re.op≠4) (hs:0<=st.steps) (he:(st.step F).empty=false) (h:eW t F ai (.body re nx i c) (st.step F) b st'):eW t F ai (.node re nx i c) st b st'
 |empty {ai i:Int}{re:Re}{nx:Goal}{c:aC}{st st':bE}{b:Bool} (ho:re.op ∉ ([1,2,3,5,6,7,8,9,10,11]:List Int)) (h:eW t F ai (.run nx i c) st b st'):eW t F ai (.body re nx i c) st b st'
 |TS {ai i:Int}{re:Re}{nx:Goal}{c:aC}{st st':bE}{b:Bool} (ho:re.op=1) (hi:i<t.length) (hs:yP re.set (lK t i)=true) (h:eW t F ai (.run nx (i+1) c) st b st'):eW t F ai (.body re nx i c) st b st'
 |X9 {ai i:Int}{re:Re}{nx:Goal}{c:aC}{st:bE} (ho:re.op=1) (hn:¬(i<t.length/\yP re.set (lK t i)=true)):eW t F ai (.body re nx i c) st false st
 |cat {ai i:Int}{re:Re}{nx:Goal}{c:aC}{st st':bE}{b:Bool} (ho:re.op=2) (h:eW t F ai (.run (gm re.kids nx) i c) st b st'):eW t F ai (.body re nx i c) st b st'
 |alt {ai i:Int}{re:Re}{nx:Goal}{c:aC}{st st':bE}{b:Bool} (ho:re.op=3) (h:eW t F ai (.alt re.kids nx i c) st b st'):eW t F ai (.body re nx i c) st b st'
 |UM {ai i:Int}{nx:Goal}{c:aC}{st:bE}:eW t F ai (.alt [] nx i c) st false st
 |abU {ai i:Int}{aJ:Re}{l:List Re}{nx:Goal}{c:aC}{st st':bE} (h:eW t F ai (.run (.mk 0 aJ 0 0 nx) i c) st true st'):eW t F ai (.alt (aJ::l) nx i c) st true st'
 |Gi {ai i:Int}{aJ:Re}{l:List Re}{nx:Goal}{c:aC}{st s2 st':bE}{b:Bool} (h:eW t F ai (.run (.mk 0 aJ 0 0 nx) i c) st false s2) (h2:eW t F ai (.alt l nx i c) s2 b st'):eW t F ai (.alt (aJ::l) nx i c) st b st'
 |cap {ai i:Int}{re aJ:Re}{l:List Re}{nx:Goal}{c:aC}{st st':bE}{b:Bool} (ho:re.op=5) (dw:re.kids=aJ::l) (h:eW t F ai (.run (.mk 0 aJ 0 0 (.mk 3 re 0 i nx)) i c) st b st'):eW t F ai (.body re nx i c) st b st'
 |XS {ai i:Int}{re:Re}{nx:Goal}{c:aC}{st:bE} (ho:re.op=6) (hx:(ct c re.n).1<0):eW t F ai (.body re nx i c) st false st
 |WQ {ai i:Int}{re:Re}{nx:Goal}{c:aC}{st:bE} (ho:re.op=6) (hx:¬(ct c re.n).1<0) (jk:¬(ct c re.n).2<(ct c re.n).1) (h2:(ct c re.n).2<=t.length) (hl:t.length<i+(ct c re.n).2-(ct c re.n).1):eW t F ai (.body re nx i c) st false st
 |ZT {ai i:Int}{re:Re}{nx:Goal}{c:aC}{st st':bE}{b:Bool} (ho:re.op=6) (hx:¬(ct c re.n).1<0) (jk:¬(ct c re.n).2<(ct c re.n).1) (h2:(ct c re.n).2<=t.length) (hl:¬t.length<i+(ct c re.n).2-(ct c re.n).1) (hs:jv t (ct c re.n).1 i ((ct c re.n).2-(ct c re.n).1).toNat=true)
   (h:eW t F ai (.run nx (i+(ct c re.n).2-(ct c re.n).1) c) st b st'):eW t F ai (.body re nx i c) st b st'
 |adF {ai i:Int}{re:Re}{nx:Goal}{c:aC}{st:bE} (ho:re.op=6) (hx:¬(ct c re.n).1<0) (jk:¬(ct c re.n).2<(ct c re.n).1) (h2:(ct c re.n).2<=t.length) (hl:¬t.length<i+(ct c re.n).2-(ct c re.n).1) (hs:jv t (ct c re.n).1 i ((ct c re.n).2-(ct c re.n).1).toNat=false):eW t F ai (.body re nx i c) st false st
 |Kn {ai i:Int}{re aJ:Re}{l:List Re}{nx:Goal}{c:aC}{st x:bE}{b:Bool} (ho:re.op=7) (dw:re.kids=aJ::l) (h:eW t F 1 (.run (.mk 0 aJ 0 0 .nil) i c) st.sub b x) (hx:x.empty=true):eW t F ai (.body re nx i c) st true (st.ET x)
 |OX {ai i:Int}{re aJ:Re}{l:List Re}{nx:Goal}{c:aC}{st x:bE}{b:Bool} (ho:re.op=7) (dw:re.kids=aJ::l) (h:eW t F 1 (.run (.mk 0 aJ 0 0 .nil) i c) st.sub b x) (hx:x.empty=false) (he:x.ends=[]) (hn:re.neg=false):eW t F ai (.body re nx i c) st false (st.ET x)
 |DU {ai i:Int}{re aJ:Re}{l:List Re}{nx:Goal}{c:aC}{st x st':bE}{b b':Bool} (ho:re.op=7) (dw:re.kids=aJ::l) (h:eW t F 1 (.run (.mk 0 aJ 0 0 .nil) i c) st.sub b x) (hx:x.empty=false) (he:x.ends=[]) (hn:re.neg=true) (h2:eW t F ai (.run nx i c) (st.ET x) b' st'):eW t F ai (.body re nx i c) st b' st'
 |Li {ai i e:Int}{re aJ:Re}{l:List Re}{nx:Goal}{c d:aC}{le:List Int}{ld:List aC}{st x st':bE}{b b':Bool} (ho:re.op=7) (dw:re.kids=aJ::l) (h:eW t F 1 (.run (.mk 0 aJ 0 0 .nil) i c) st.sub b x) (hx:x.empty=false) (he:x.ends=e::le) (hd:x.aj=d::ld) (hn:re.neg=false) (h2:eW t F ai (.run nx i d) (st.ET x) b' st'):eW t F ai (.body re nx i c) st b' st'
 |BL {ai i e:Int}{re aJ:Re}{l:List Re}{nx:Goal}{c d:aC}{le:List Int}{ld:List aC}{st x:bE}{b:Bool} (ho:re.op=7) (dw:re.kids=aJ::l) (h:eW t F 1 (.run (.mk 0 aJ 0 0 .nil) i c) st.sub b x) (hx:x.empty=false) (he:x.ends=e::le) (hd:x.aj=d::ld) (hn:re.neg=true):eW t F ai (.body re nx i c) st false (st.ET x)
 |behind {ai i:Int}{re aJ:Re}{l:List Re}{nx:Goal}{c:aC}{st st':bE}{b:Bool} (ho:re.op=8) (dw:re.kids=aJ::l) (he:st.empty=false) (h:eW t F ai (.behind re aJ nx i c (i.toNat+1)) st b st'):eW t F ai (.body re nx i c) st b st'
 |acQ {ai i:Int}{re aJ:Re}{nx:Goal}{c:aC}{st:bE} (hn:re.neg=false):eW t F ai (.behind re aJ nx i c 0) st false st
 |Ph {ai i:Int}{re aJ:Re}{nx:Goal}{c:aC}{st st':bE}{b:Bool} (hn:re.neg=true) (h:eW t F ai (.run nx i c) st b st'):eW t F ai (.behind re aJ nx i c 0) st b st'
 |Yr {ai i:Int}{j:Nat}{re aJ:Re}{nx:Goal}{c:aC}{st x:bE}{b:Bool} (h:eW t F 1 (.run (.mk 0 aJ 0 0 (pV i)) j c) st.sub b x) (hx:x.empty=true):eW t F ai (.behind re aJ nx i c (j+1)) st true (st.ET x)
 |YC {ai i e:Int}{j:Nat}{re aJ:Re}{nx:Goal}{c d:aC}{le:List Int}{ld:List aC}{st x st':bE}{b b':Bool} (h:eW t F 1 (.run (.mk 0 aJ 0 0 (pV i)) j c) st.sub b x) (hx:x.empty=false) (he:x.ends=e::le) (hd:x.aj=d::ld) (hn:re.neg=false) (h2:eW t F ai (.run nx i d) (st.ET x) b' st'):eW t F ai (.behind re aJ nx i c (j+1)) st b' st'
 |KP {ai i e:Int}{j:Nat}{re aJ:Re}{nx:Goal}{c d:aC}{le:List Int}{ld:List aC}{st x:bE}{b:Bool} (h:eW t F 1 (.run (.mk 0 aJ 0 0 (pV i)) j c) st.sub b x) (hx:x.empty=false) (he:x.ends=e::le) (hd:x.aj=d::ld) (hn:re.neg=true):eW t F ai (.behind re aJ nx i c (j+1)) st false (st.ET x)
 |Vx {ai i:Int}{j:Nat}{re aJ:Re}{nx:Goal}{c:aC}{st x st':bE}{b b':Bool} (h:eW t F 1 (.run (.mk 0 aJ 0 0 (pV i)) j c) st.sub b x) (hx:x.empty=false) (he:x.ends=[]) (h2:eW t F ai (.behind re aJ nx i c j) (st.ET x) b' st'):eW t F ai (.behind re aJ nx i c (j+1)) st b' st'
 |Wo {ai i:Int}{re aJ:Re}{l:List Re}{nx:Goal}{c:aC}{st x:bE}{b:Bool} (ho:re.op=9) (dw:re.kids=aJ::l) (h:eW t F 1 (.run (.mk 0 aJ 0 0 .nil) i c) st.sub b x) (hx:x.empty=true):eW t F ai (.body re nx i c) st true (st.ET x)
 |aaQ {ai i:Int}{re aJ:Re}{l:List Re}{nx:Goal}{c:aC}{st x:bE}{b:Bool} (ho:re.op=9) (dw:re.kids=aJ::l) (h:eW t F 1 (.run (.mk 0 aJ 0 0 .nil) i c) st.sub b x) (hx:x.empty=false) (he:x.ends=[]):eW t F ai (.body re nx i c) st false (st.ET x)
 |XH {ai i e:Int}{re aJ:Re}{l:List Re}{nx:Goal}{c d:aC}{le:List Int}{ld:List aC}{st x st':bE}{b b':Bool} (ho:re.op=9) (dw:re.kids=aJ::l) (h:eW t F 1 (.run (.mk 0 aJ 0 0 .nil) i c) st.sub b x) (hx:x.empty=false) (he:x.ends=e::le) (hd:x.aj=d::ld) (h2:eW t F ai (.run nx e d) (st.ET x) b' st'):eW t F ai (.body re nx i c) st b' st'
 |cond {ai i:Int}{re yes no:Re}{l:List Re}{nx:Goal}{c:aC}{st st':bE}{b:Bool} (ho:re.op=10) (dw:re.kids=yes::no::l) (h:eW t F ai (.run (.mk 0 (if 0<=(ct c re.n).1 then yes else no) 0 0 nx) i c) st b st'):eW t F ai (.body re nx i c) st b st'
 |HE {ai i:Int}{re:Re}{nx:Goal}{c:aC}{st st':bE}{b:Bool} (ho:re.op=11) (hh:bY re.n t i=true) (h:eW t F ai (.run nx i c) st b st'):eW t F ai (.body re nx i c) st b st'
 |LP {ai i:Int}{re:Re}{nx:Goal}{c:aC}{st:bE} (ho:re.op=11) (hh:bY re.n t i=false):eW t F ai (.body re nx i c) st false st
theorem sd {rec:Int->Task->bE->Option (Bool×bE)}{g:Goal}{i:Int}{c:aC}{st s2:bE}{o:Option (Int×aC)} (h:cY rec g i c st=some (o,s2)) :
  ∃b x,rec 1 (.run g i c) st.sub=some (b,x)/\s2=st.ET x/\((x.empty=true/\o=none)\/(x.empty=false/\x.ends=[]/\o=none)\/(x.empty=false/\∃e le d ld,x.ends=e::le/\x.aj=d::ld/\o=some (e,d))):=by
 unfold cY at h;unfold bE.sub bE.ET;cases hx:rec 1 (.run g i c) ⟨st.steps,false,[],[]⟩ with
 |none=>rw[hx]at h;cases h
 |some y =>
  obtain⟨b,x⟩:=y;rw[hx]at h;simp only at h;refine⟨b,x,rfl,?_⟩;cases he:x.empty with
  |true =>
   rw[he,be rfl]at h;cases h;exact⟨rfl,.inl ⟨rfl,rfl⟩⟩
  |false =>
   rw[he,ap alJ]at h;cases hE:x.ends with
   |nil =>
    rw[hE]at h;cases h;exact⟨rfl,.inr (.inl ⟨rfl,rfl,rfl⟩)⟩
   |cons e le =>
    cases hD:x.aj with
    |nil=>rw[hE,hD]at h;cases h
    |cons d ld =>
     rw[hE,hD]at h;cases h;exact⟨rfl,.inr (.inr ⟨rfl,e,le,d,ld,rfl,rfl,rfl⟩)⟩
def Task.e:Task->ETask
 |.run g i c=>.run g i c
 |.rep (.mk _ re k _ nx) i c=>.rep re k nx i c
 |.rep .nil i c=>.alt [] .nil i c
 |.node (.mk _ re _ _ nx) i c=>.node re nx i c
 |.node .nil i c=>.alt [] .nil i c
section conv
variable {t:List Int}{F:Int}{rec:Int->Task->bE->Option (Bool×bE)} (eH:∀ai task st b st',rec ai task st=some (b,st')->eW t F ai task.e st b st')
variable{nx:Goal}{ai:Int}{st':bE}{b:Bool}
include eH
theorem O8 {ai:Int}{nx:Goal}{i:Int}{c:aC}:∀(l:List Re) (st st':bE) (b:Bool),uD (λk st=>rec ai (.run (.mk 0 k 0 0 nx) i c) st) l st=some (b,st')->eW t F ai (.alt l nx i c) st b st'
 |[],st,st',b,h=>by simp only[uD]at h;cases h;exact .UM
 |k::l,st,st',b,h=>by
  simp only[uD]at h;cases hx:rec ai (.run (.mk 0 k 0 0 nx) i c) st with
  |none=>rw[hx]at h;cases h
  |some y =>
   obtain⟨b1,s2⟩:=y;rw[hx]at h;have h1:=eH _ _ _ _ _ hx;cases b1 with
   |true=>simp only[xc]at h;cases h;exact .abU h1
   |false=>simp only[xc]at h;exact .Gi h1 (O8 l s2 st' b h)
theorem D7 {ai:Int}{re aJ:Re}{nx:Goal}{i:Int}{c:aC}{b:Bool}{st':bE}:∀(j:Nat) (st s2:bE) (ro:Option aC),st.empty=false->dT (λk st=>cY rec (.mk 0 aJ 0 0 (pV i)) k c st) j st=some (ro,s2) ->
  (if s2.empty then some (true,s2) else if re.neg=true then (match ro with|some _=>some (false,s2)|none=>rec ai (.run nx i c) s2) else match ro with|some d=>rec ai (.run nx i d) s2|none=>some (false,s2))=some (b,st')->eW t F ai (.behind re aJ nx i c j) st b st'
 |0,st,s2,ro,he,hb,h=>by
  simp only[dT]at hb;cases hb;rw[ap (by rw[he];exact alJ)]at h;by_cases hn:re.neg=true
  ·rw[be hn]at h;exact .Ph hn (eH _ _ _ _ _ h)
  ·rw[ap hn]at h;cases h;exact .acQ (by simpa using hn)
 |j+1,st,s2,ro,he,hb,h=>by
  simp only[dT]at hb;rw[ap (by rw[he];exact alJ)]at hb;cases hf:cY rec (.mk 0 aJ 0 0 (pV i)) j c st with
  |none=>rw[hf]at hb;cases hb
  |some y =>
   obtain⟨o,s3⟩:=y;rw[hf]at hb;obtain⟨b1,x,k1,rfl,k2⟩:=sd hf;have h1:=eH _ _ _ _ _ k1;rcases k2 with ⟨e1,rfl⟩|⟨e1,e2,rfl⟩|⟨e1,e,le,d,ld,e2,e3,rfl⟩
   ·have hae:(st.ET x).empty=true:=e1;simp only at hb;have T1:(ro,s2)=(none,st.ET x):=by
     cases j with
     |zero=>simp only[dT]at hb;exact(amx hb).symm
     |succ j=>simp only[dT]at hb;rw[be hae]at hb;exact(amx hb).symm
    cases T1;rw[be hae]at h;cases h;exact .Yr h1 e1
   ·simp only at hb;exact .Vx h1 e1 e2 (D7 j _ s2 ro e1 hb h)
   ·simp only at hb;cases hb;rw[ap (by show ¬x.empty=true;rw[e1];exact alJ)]at h;by_cases hn:re.neg=true
    ·rw[be hn]at h;cases h;exact .KP h1 e1 e2 e3 hn
    ·rw[ap hn]at h;exact .YC h1 e1 e2 e3 (by simpa using hn) (eH _ _ _ _ _ h)
theorem VE{re:Re}{i:Int}{c:aC}{st:bE} (Sq:st.empty=false) (h:fA t rec ai re nx i c st=some (b,st')):eW t F ai (.body re nx i c) st b st':=by
 unfold fA at h;by_cases o1:re.op=1
 ·rw[be o1]at h;by_cases hc:i<t.length/\yP re.set (lK t i)=true
  ·rw[be hc]at h;exact .TS o1 hc.1 hc.2 (eH _ _ _ _ _ h)
  ·rw[ap hc]at h;cases h;exact .X9 o1 hc
 rw[ap o1]at h;by_cases o2:re.op=2
 ·rw[be o2]at h;exact .cat o2 (eH _ _ _ _ _ h)
 rw[ap o2]at h;by_cases o3:re.op=3
 ·rw[be o3]at h;exact .alt o3 (O8 eH _ _ _ _ h)
 rw[ap o3]at h;by_cases o5:re.op=5
 ·rw[be o5]at h;cases hk:re.kids with
  |nil=>rw[hk]at h;cases h
  |cons k l=>rw[hk]at h;exact .cap o5 hk (eH _ _ _ _ _ h)
 rw[ap o5]at h;by_cases o6:re.op=6
 ·rw[be o6]at h;simp only at h;by_cases c1:(ct c re.n).1<0
  ·rw[be c1]at h;cases h;exact .XS o6 c1
  rw[ap c1]at h;by_cases c2:(ct c re.n).2<(ct c re.n).1\/(t.length:Int)<(ct c re.n).2
  ·rw[be c2]at h;cases h
  rw[ap c2]at h;by_cases c3:t.length<i+(ct c re.n).2-(ct c re.n).1
  ·rw[be c3]at h;cases h;exact .WQ o6 c1 ae ae c3
  rw[ap c3]at h;by_cases c4:jv t (ct c re.n).1 i ((ct c re.n).2-(ct c re.n).1).toNat=true
  ·rw[be c4]at h;exact .ZT o6 c1 ae ae c3 c4 (eH _ _ _ _ _ h)
  ·rw[ap c4]at h;cases h;exact .adF o6 c1 ae ae c3 (by simpa using c4)
 rw[ap o6]at h;by_cases o7:re.op=7\/re.op=8
 ·rw[be o7]at h;cases hk:re.kids with
  |nil=>rw[hk]at h;cases h
  |cons k l =>
   rw[hk]at h;simp only at h;cases hx:oq rec re.op k i c st with
   |none=>rw[hx]at h;cases h
   |some y =>
    obtain⟨ro,s2⟩:=y;rw[hx]at h;simp only at h;unfold oq at hx;by_cases p7:re.op=7
    ·rw[be p7]at hx;cases hf:cY rec (.mk 0 k 0 0 .nil) i c st with
     |none=>rw[hf]at hx;cases hx
     |some z =>
      obtain⟨o,s3⟩:=z;rw[hf]at hx;cases hx;obtain⟨b1,x,k1,rfl,k2⟩:=sd hf;have h1:=eH _ _ _ _ _ k1;rcases k2 with ⟨e1,rfl⟩|⟨e1,e2,rfl⟩|⟨e1,e,le,d,ld,e2,e3,rfl⟩
      ·rw[be (show (st.ET x).empty=true from e1)]at h;cases h;exact .Kn p7 hk h1 e1
      ·rw[ap (by show ¬x.empty=true;rw[e1];exact alJ)]at h;by_cases hn:re.neg=true
       ·rw[be hn]at h;exact .DU p7 hk h1 e1 e2 hn (eH _ _ _ _ _ h)
       ·rw[ap hn]at h;cases h;exact .OX p7 hk h1 e1 e2 (by simpa using hn)
      ·rw[ap (by show ¬x.empty=true;rw[e1];exact alJ)]at h;by_cases hn:re.neg=true
       ·rw[be hn]at h;cases h;exact .BL p7 hk h1 e1 e2 e3 hn
       ·rw[ap hn]at h;exact .Li p7 hk h1 e1 e2 e3 (by simpa using hn) (eH _ _ _ _ _ h)
    ·rw[ap p7]at hx;exact .behind ae hk Sq (D7 eH _ _ _ _ Sq hx h)
 rw[ap o7]at h;by_cases o9:re.op=9
 ·rw[be o9]at h;cases hk:re.kids with
  |nil=>rw[hk]at h;cases h
  |cons k l =>
   rw[hk]at h;simp only at h;cases hf:cY rec (.mk 0 k 0 0 .nil) i c st with
   |none=>rw[hf]at h;cases h
   |some z =>
    obtain⟨o,s3⟩:=z;rw[hf]at h;simp only at h;obtain⟨b1,x,k1,rfl,k2⟩:=sd hf;have h1:=eH _ _ _ _ _ k1;rcases k2 with ⟨e1,rfl⟩|⟨e1,e2,rfl⟩|⟨e1,e,le,d,ld,e2,e3,rfl⟩
    ·rw[be (show (st.ET x).empty=true from e1)]at h;cases h;exact .Wo o9 hk h1 e1
    ·rw[ap (by show ¬x.empty=true;rw[e1];exact alJ)]at h;cases h;exact .aaQ o9 hk h1 e1 e2
    ·rw[ap (by show ¬x.empty=true;rw[e1];exact alJ)]at h;exact .XH o9 hk h1 e1 e2 e3 (eH _ _ _ _ _ h)
 rw[ap o9]at h;by_cases yL:re.op=10
 ·rw[be yL]at h
  match hk:re.kids with
  |[]=>rw[hk]at h;cases h
  |[_]=>rw[hk]at h;cases h
  |yes::no::l=>rw[hk]at h;exact .cond yL hk (eH _ _ _ _ _ h)
 rw[ap yL]at h;by_cases mZ:re.op=11
 ·rw[be mZ]at h;by_cases q:bY re.n t i=true
  ·rw[be q]at h;exact .HE mZ q (eH _ _ _ _ _ h)
  ·rw[ap q]at h;cases h;exact .LP mZ (by simpa using q)
 rw[ap mZ]at h;exact .empty cV (eH _ _ _ _ _ h)
theorem Xo{re:Re}{k:Int}{i:Int}{c:aC}{st:bE} (h:sO F rec ai re k nx i c st=some (b,st')):eW t F ai (.rep re k nx i c) st b st':=by
 unfold sO at h;by_cases hm:re.mode=2
 ·rw[be hm]at h;cases hf:cY rec (.mk 1 (re.dJ 0) 0 0 .nil) i c st with
  |none=>rw[hf]at h;cases h
  |some z =>
   obtain⟨o,s3⟩:=z;rw[hf]at h;simp only at h;obtain⟨b1,x,k1,rfl,k2⟩:=sd hf;have h1:=eH _ _ _ _ _ k1;rcases k2 with ⟨e1,rfl⟩|⟨e1,e2,rfl⟩|⟨e1,e,le,d,ld,e2,e3,rfl⟩
   ·simp only at h;obtain⟨rfl,rfl⟩:=Prod.mk.inj (amx h);have:=eW.OZ (ai:=ai) (k:=k) (nx:=nx) hm h1 e1;rwa [<- show (st.ET x).empty=true from e1]at this
   ·simp only at h;obtain⟨rfl,rfl⟩:=Prod.mk.inj (amx h);have:=eW.UF (ai:=ai) (k:=k) (nx:=nx) hm h1 e1 e2;rwa [<- show (st.ET x).empty=false from e1]at this
   ·simp only at h;exact .Qo hm h1 e1 e2 e3 (eH _ _ _ _ _ h)
 rw[ap hm]at h;by_cases hs:st.steps<0\/10000000000000<st.steps
 ·rw[be hs]at h;cases h
 rw[ap hs]at h;simp only at h;have jW:0<=st.steps:=ae;by_cases he:(st.step F).empty=true
 ·rw[be he]at h;cases h;exact .Ul hm jW he
 rw[ap he]at h;have he:(st.step F).empty=false:=by simpa using he
 cases hk:re.kids with
 |nil=>rw[hk]at h;cases h
 |cons aJ l =>
  rw[hk]at h;simp only at h;by_cases c2:k<re.mn
  ·rw[be c2]at h;exact .Uj hm jW he hk c2 (eH _ _ _ _ _ h)
  rw[ap c2]at h;by_cases m1:re.mode=1
  ·rw[be m1]at h;cases hx:rec ai (.run nx i c) (st.step F) with
   |none=>rw[hx]at h;cases h
   |some y =>
    obtain⟨b1,s2⟩:=y;rw[hx]at h;have h1:=eH _ _ _ _ _ hx;by_cases cM:re.mx=-1\/k<re.mx
    ·cases b1 with
     |true=>simp only[xc]at h;cases h;exact .MZ m1 jW he hk c2 cM h1
     |false=>simp only[xc]at h;rw[be cM]at h;exact .KS m1 jW he hk c2 cM h1 (eH _ _ _ _ _ h)
    ·cases b1 with
     |true=>simp only[xc]at h;cases h;exact .Iz hm jW he hk c2 cM h1
     |false=>simp only[xc]at h;rw[ap cM]at h;cases h;exact .Iz hm jW he hk c2 cM h1
  ·rw[ap m1]at h;by_cases cM:re.mx=-1\/k<re.mx
   ·rw[be cM]at h;cases hx:rec ai (.run (.mk 0 aJ 0 0 (.mk 2 re k i nx)) i c) (st.step F) with
    |none=>rw[hx]at h;cases h
    |some y =>
     obtain⟨b1,s2⟩:=y;rw[hx]at h;have h1:=eH _ _ _ _ _ hx;cases b1 with
     |true=>simp only[xc]at h;cases h;exact .X7 hm m1 jW he hk c2 cM h1
     |false=>simp only[xc]at h;exact .YS hm m1 jW he hk c2 cM h1 (eH _ _ _ _ _ h)
   ·rw[ap cM]at h;simp only[xc]at h;exact .Iz hm jW he hk c2 cM (eH _ _ _ _ _ h)
end conv
variable{re:Re}{aj:Int}{top:Int}
theorem Ux {t:List Int}{F:Int}:∀(n:Nat) (ai:Int) (task:Task) (st:bE) (b:Bool) (st':bE),eK t F n ai task st=some (b,st')->eW t F ai task.e st b st'
 |0,_,_,_,_,_,h=>by cases h
 |n+1,ai,task,st,b,st',h=>by
  have eH:=Ux (t:=t) (F:=F) n
  replace h:cw t F (eK t F n) ai task st=some (b,st'):=h
  cases task with
  |run g i c =>
   simp only[cw]at h;split at h
   ·cases h
   rename_i hi;have h0:0<=i:=ae;have h1:i<=t.length:=ae;cases g with
   |nil =>
    simp only at h;split at h
    ·rename_i hl;obtain⟨rfl,rfl⟩:=Prod.mk.inj (amx h);exact .found h0 h1 hl.2 hl.1
    ·cases h
   |mk kind re k f nx =>
    simp only at h;by_cases k1:kind=1
    ·rw[be k1]at h;subst k1;exact .YW h0 h1 (eH _ _ _ _ _ h)
    rw[ap k1]at h;by_cases k2:kind=2
    ·rw[be k2]at h;subst k2;by_cases q:re.mn<=k/\i=f
     ·rw[be q]at h;cases h;exact .stay h0 h1 q.1 q.2
     rw[ap q]at h;split at h
     ·cases h
     exact .iter h0 h1 q ae ae (eH _ _ _ _ _ h)
    rw[ap k2]at h;by_cases k3:kind=3
    ·rw[be k3]at h;subst k3;split at h
     ·cases h
     exact .save h0 h1 (eH _ _ _ _ _ h)
    rw[ap k3]at h;by_cases k4:kind=4
    ·rw[be k4]at h;subst k4;by_cases q:i=f
     ·rw[be q]at h;exact .here h0 h1 q (eH _ _ _ _ _ h)
     ·rw[ap q]at h;cases h;exact .gone h0 h1 q
    rw[ap k4]at h;exact .tree k1 k2 k3 k4 h0 h1 (eH _ _ _ _ _ h)
  |rep g i c =>
   simp only[cw]at h;split at h
   ·cases h
   cases g with
   |nil=>cases h
   |mk kind re k f nx=>exact Xo eH h
  |node g i c =>
   simp only[cw]at h;split at h
   ·cases h
   rename_i hi;cases g with
   |nil=>cases h
   |mk kind re k f nx =>
    simp only at h;by_cases o4:re.op=4
    ·rw[be o4]at h;exact .PT o4 ae ae (eH _ _ _ _ _ h)
    rw[ap o4]at h;split at h
    ·cases h
    split at h
    ·cases h
    rename_i hs;have jW:0<=st.steps:=ae;by_cases he:(st.step F).empty=true
    ·rw[be he]at h;cases h;exact .Qi o4 jW he
    ·rw[ap he]at h;have he:(st.step F).empty=false:=by simpa using he
     exact .node o4 jW he (VE eH he h)
def FA (F F':Int) (st st':bE) (b:Bool) (o:Option (Bool×bE)):Prop :=
 st.steps<=st'.steps/\(st'.empty=true->b=true/\F<st'.steps)/\(st.steps<=F'->(st'.steps<=F'->o=some (b,st'))/\(F'<st'.steps->∃s2,o=some (true,s2)/\s2.empty=true))
def uV (re:Re):Prop:=re.op=0\/re.op=1\/re.op=11
theorem Ht (re:Re) (hs:re.every tZ=true) (hl:uV re) (f:Int):aS prog 55 [lI re,i64 f] (.fu ((re.code f).map kz.cells)):=by
 obtain⟨dL,jG⟩:=(Re.az re).1 hs;obtain⟨xY,Aq,Xn,jX⟩:=iA.1 dL;rcases hl with o|o|o
 ·have hc:re.code f=[]:=by rw[Re.oz,bm,bm,bm,bm,bm,bm]
  exact Zbh
 ·have hc:re.code f=[⟨1,0,0,0,re.set⟩]:=by rw[Re.oz,be o]
  exact Zbh
 ·have hc:re.code f=[⟨5,0,0,re.n,[]⟩]:=by rw[Re.oz,bm,be o]
  exact Zbh
theorem UA (re:Re) (hs:re.every tZ=true) (hz:re.kx<=8500) (o:re.op=2) (hc:∀k∈re.kids,uP k) (f:Int) (h0:0<=f) (h1:f<=1000000000000000000-100000000*re.size):lz prog 55 [lI re,i64 f] 5 ((re.code f).map kz.cells):=by
 obtain⟨dL,jG⟩:=(Re.az re).1 hs;obtain⟨q1,q2,q3,_⟩:=fE.1 (gU.1 (iA.1 dL).1).1;have Vl:=Aj hs ae ⟨ae,ae⟩;have wY:∀k∈re.kids,∀f,((k.code f).length:Int)=k.kx:=λk hk=>pG k (jG k hk) (Vl.2 k hk);have Mm:re.code f=Re.ez re.kids f:=by rw[Re.oz,bm,bm,be o]
 have cQ:∀i,((Re.ez (re.kids.take i) f).length:Int)<=10000000:=λi=>by rw[Ck (λk hk=>wY k (alU hk)) f];have:=(sA (l:=re.kids.take i) (λk hk=>ji k (nP (jG k (alU hk))))).2;rw[alM]at this;omega
 rw[Mm];unfold lz;refine pE func55 rfl ntmps55 results55 rfl 0 3063 aq aq ?_;simp only[zI,simprocAttr,au re,iD,bD,o];refine ay (λn e s=>∃(i g:Nat),n=re.kids.length-i/\i<=re.kids.length/\e 1=i64 f/\e 2=.rf 0 0 0 0/\e 5=.so 1 g 0 (Re.ez (re.kids.take i) f).length/\e 6=i64 i/\s=[aL re,jg g (Re.ez (re.kids.take i) f)])
  ⟨_,_,_,.On (gQ 5 5 rfl),0,0,rfl,ae,rfl,rfl,rfl,rfl,by simp [aL,Re.ah re,iD,bD,o,jg,Re.ez]⟩ ?_
 rintro n e s ⟨i,g,rfl,hi,xD,h2,h5,h6,rfl⟩;rcases alw i re.kids.length with aE|gE
 ·obtain⟨k,hk⟩:∃k,re.kids[i]?=some k:=cb aE;have hm:=List.mem_of_getElem? hk;have aH:(i:Int)<re.kids.length:=ae;have hb:=cQ i;have JE:k.size<re.size:=Re.bZ hm;have eF:=hc k hm (f+(Re.ez (re.kids.take i) f).length) ae ae;have Z1:=wY k hm (f+(Re.ez (re.kids.take i) f).length);have akb:=Vl.2 k hm;have Dz:Re.ez (re.kids.take (i+1)) f=Re.ez (re.kids.take i) f++k.code (f+(Re.ez (re.kids.take i) f).length):=by rw[bn hk,Re.zZ]
  generalize k.code (f+(Re.ez (re.kids.take i) f).length)=aJ at *;generalize Re.ez (re.kids.take i) f=out at *;have w1:IntKind.i64.wrap (f+(out.length:Int))=f+(out.length:Int):=bK _ ae;simp only[i64]at eF;simp only[zI,simprocAttr,aL,Re.ah re,ak8,ak9,iD,bD,xD,h2,h5,h6,aH,jg,hk,w1];refine bB eF (by simp [ak,ak.go,au]) tY ?_;simp only[zI,simprocAttr,aL,Re.ah re,ak8,ak9,iD,bD,xD,h2,h5,h6,jg];refine⟨mw _,⟨aq,ae⟩,re.kids.length-(i+1),_,_,ae,bO.refl,i+1,g+1,rfl,ae,?_,?_,?_,?_,?_⟩ <;> (try simp only[zU,Nat.reduceBEq,Nat.reduceShiftRight,Nat.reduceMod,Nat.reduceEqDiff,reduceIte])
  ·exact xD
  ·exact h2
  ·rw[Dz];simp
  ·rw[bK _ ae];rfl
  ·rw[po _ _ (ale _),Dz];simp [aL,jg,Re.ah re,iD,bD]
 ·have eg:i=re.kids.length:=by omega
  subst eg;have aH:¬(re.kids.length:Int)<re.kids.length:=ae;rw[alr]at h5;rw[alr];simp only[zI,simprocAttr,aL,Re.ah re,ak8,ak9,iD,bD,xD,h2,h5,h6,aH,jg,tV];exact nZ (id:=1) eh eh aq
theorem Vz (re k:Re) (hs:re.every tZ=true) (hz:re.kx<=8500) (o:re.op=5) (hk:re.kids=[k]) (hc:uP k) (f:Int) (h0:0<=f) (h1:f<=1000000000000000000-100000000*re.size):lz prog 55 [lI re,i64 f] 5 ((re.code f).map kz.cells):=by
 obtain⟨dL,jG⟩:=(Re.az re).1 hs;obtain⟨q1,q2,q3,q4,q5,q6,q7,q8,q9,jd⟩:=fE.1 (gU.1 (iA.1 dL).1).1;have hm:k∈re.kids:=by rw[hk];simp
 have Vl:=(Aj hs ae ⟨ae,ae⟩).2 k hm;have wY:=pG k (jG k hm) Vl (f+1);have xg:re.kids[0]?=some k:=by rw[hk];rfl
 have ej:(0:Int)<(re.kids.length:Int):=by rw[hk];simp
 have JE:k.size<re.size:=Re.bZ hm;have eF:=hc (f+1) ae ae;have Mm:re.code f=Ix (2*re.n-2)::(k.code (f+1)++[Ix (2*re.n-1)]):=by rw[Re.oz,bm,bm,bm,bm,be o,hk];rfl
 rw[Mm];generalize k.code (f+1)=aJ at *;have w1:IntKind.i64.wrap (f+1)=f+1:=bK _ ae;have w2:IntKind.i64.wrap (2*re.n)=2*re.n:=bK _ ae;have w3:IntKind.i64.wrap (2*re.n-2)=2*re.n-2:=bK _ ae;have w4:IntKind.i64.wrap (2*re.n-1)=2*re.n-1:=bK _ ae;simp only[i64]at eF;generalize hR:List.map kz.cells (Ix (2*re.n-2)::(aJ++[Ix (2*re.n-1)]))=R;unfold lz;refine pE func55 rfl ntmps55 results55 rfl 0 3063 aq aq ?_;simp only[zI,simprocAttr,au re,iD,bD,o];refine aW (gQ 5 5 rfl) ?_;refine cP mix [] [(7,[1],[1]),(15,[1],[1])] ?_;simp only[zI,simprocAttr,au re,iD,bD,o,xg,ej,w1,w2,w3];refine⟨rfl,λe he=>by rw[List.mem_singleton.1 he];rfl,?_⟩;refine DR eF (by simp [ak,ak.go,au]) tY ?_;simp only[zI,simprocAttr,au re,iD,bD,o,w2,w4];refine⟨rfl,mw _,ae,λe he=>by rw[List.mem_singleton.1 he];rfl,⟨ae,ae⟩,?_⟩;simp only[zI,simprocAttr,au re,iD,bD,o,w2,w4,tV];refine nZ (id:=1) eh ?_ ?_
 ·rw[aln cV,<- hR];simp [Ix,kz.cells,iD]
 ·rw[<- hR];simp;omega
theorem UT (re k k2:Re) (l:List Re) (hs:re.every tZ=true) (hz:re.kx<=8500) (o:re.op=3) (hk:re.kids=k::k2::l) (hc:uP k) (ud:uP k2) (hc3:l≠[]->uP (rU (k2::l))) (f:Int) (h0:0<=f) (h1:f<=1000000000000000000-100000000*re.size):lz prog 55 [lI re,i64 f] 5 ((re.code f).map kz.cells):=by
 obtain⟨dL,jG⟩:=(Re.az re).1 hs;obtain⟨q1,q2,q3,q4,q5,q6,q7,q8,q9,jd⟩:=fE.1 (gU.1 (iA.1 dL).1).1;have hm:k∈re.kids:=by rw[hk];simp
 have Bt:k2∈re.kids:=by rw[hk];simp
 have Vl:=Aj hs ae ⟨ae,ae⟩;have wY:=pG k (jG k hm) (Vl.2 k hm) (f+1);have aiS:=Vl.2 k hm;have ajW:=Vl.2 k2 Bt;have xg:re.kids[0]?=some k:=by rw[hk];rfl
 have XF:re.kids[1]?=some k2:=by rw[hk];rfl
 have ej:(0:Int)<(re.kids.length:Int):=by rw[hk];simp;omega
 have Xb:(1:Int)<(re.kids.length:Int):=by rw[hk];simp;omega
 have JE:k.size<re.size:=Re.bZ hm;have akw:k2.size<re.size:=Re.bZ Bt;have eF:=hc (f+1) ae ae;have hlen:=pG re hs ae f;have Mm:re.code f=Re.fg (k::k2::l) f:=by rw[Re.oz,bm,bm,bm,be o,hk]
 have CA:Re.fg (k::k2::l) f=zx 0 (f+1) (f+(k.code (f+1)).length+2)::(k.code (f+1)++LV (f+(k.code (f+1)).length+2+(Re.fg (k2::l) (f+(k.code (f+1)).length+2)).length)::Re.fg (k2::l) (f+(k.code (f+1)).length+2)):=by rw[Re.fg]
 rw[Mm,CA]at hlen ⊢;generalize k.code (f+1)=fst at *;obtain⟨rest,ada,hrv,QS,hrz,FH⟩:∃rest:Re,rest.code (f+fst.length+2)=Re.fg (k2::l) (f+fst.length+2)/\(l=[]->rest=k2)/\(l≠[]->rest=rU (k2::l))/\((Re.fg (k2::l) (f+fst.length+2)).length:Int)<=9000/\aS prog 55 [lI rest,i64 (f+fst.length+2)] (.d (.sl ((Re.fg (k2::l) (f+fst.length+2)).map kz.cells))):=by
  have hb:((Re.fg (k2::l) (f+fst.length+2)).length:Int)<=9000:=by simp only[alg,ald]at hlen;omega
  by_cases hl:l=[]
  ·have e:k2.code (f+fst.length+2)=Re.fg (k2::l) (f+fst.length+2):=by rw[hl,Re.fg]
   refine⟨k2,e,λ_=>rfl,λh=>absurd hl h,hb,?_⟩;rw[<- e];exact ud _ ae ae
  ·have e:(rU (k2::l)).code (f+fst.length+2)=Re.fg (k2::l) (f+fst.length+2):=by rw[Re.oz];rfl
   refine⟨rU (k2::l),e,λh=>absurd h hl,λ_=>rfl,hb,?_⟩;rw[<- e];have gr:(rU (k2::l)).size<re.size:=by
    have e1:(rU (k2::l)).size=1+Re.da (k2::l):=Re.size_eq _;have e2:re.size=1+Re.da (k::k2::l):=by rw[<- hk];exact Re.size_eq _
    have:=k.size_pos;rw[e1,e2];simp only[Re.da];omega
   exact hc3 hl _ ae ae
 have w1:IntKind.i64.wrap (f+1)=f+1:=bK _ ae;have w2:IntKind.i64.wrap (f+(fst.length:Int))=f+fst.length:=bK _ ae;have w3:IntKind.i64.wrap (f+(fst.length:Int)+2)=f+fst.length+2:=bK _ ae;clear ada hlen Mm CA;generalize Re.fg (k2::l) (f+fst.length+2)=snd at *;have w4:IntKind.i64.wrap (f+(fst.length:Int)+2+(snd.length:Int))=f+fst.length+2+snd.length:=bK _ ae;generalize hR:List.map kz.cells (zx 0 (f+1) (f+fst.length+2)::(fst++LV (f+fst.length+2+snd.length)::snd))=R;simp only[i64]at eF FH;unfold lz;by_cases hl:l=[]
 ·have EK:¬(2:Int)<(re.kids.length:Int):=by rw[hk,hl];simp
  rw[hrv hl,au k2]at FH;simp only[iD,bD]at FH;refine pE func55 rfl ntmps55 results55 rfl 0 3063 aq aq ?_;simp only[zI,simprocAttr,au re,iD,bD,o,xg,XF,ej,Xb,w1];refine bB eF (by simp [ak,ak.go,au]) tY ?_;simp only[zI,simprocAttr,au re,au k2,Re.ah k2,iD,bD,o,xg,XF,Xb,w1,w2,w3,EK,gt_iff_lt];refine dk FH ?_;exact ZaQ
 ·have EK:(2:Int)<(re.kids.length:Int):=by rw[hk];have:0<l.length:=List.length_pos_iff.2 hl;simp;omega
  rw[QS hl]at FH;have hdr:List.take ((re.kids.length:Int)-1).toNat (List.drop 1 (re.kids.map Re.cells))=(k2::l).map Re.cells:=by rw[hk,aln aq];rfl
  have halt:lI (rU (k2::l))=.ag [.d (iD 3),.d (.sl []),.d (.sl ((k2::l).map Re.cells)),.d (iD 0),.d (iD 0),.d (iD 0),.d (iD 0),.d (bD false)]:=by rw[au];rfl
  rw[halt,<- hdr]at FH;simp only[iD,bD]at FH;refine pE func55 rfl ntmps55 results55 rfl 0 3063 aq aq ?_;simp only[zI,simprocAttr,au re,iD,bD,o,xg,XF,ej,Xb,w1];refine bB eF (by simp [ak,ak.go,au]) tY ?_;simp only[zI,simprocAttr,au re,au k2,Re.ah k2,iD,bD,o,xg,XF,Xb,w1,w2,w3,EK,gt_iff_lt];refine⟨⟨ae,alj _⟩,λe he=>by obtain⟨x,_,rfl⟩:=List.mem_map.1 he;exact x.iJ,?_⟩;refine bC [] eh ?_;refine dk FH ?_;simp only[bI];exact ZaQ
theorem aS.qd {P:Program}{f:FuncId}{args:List V}{l:List (List D)} (h:aS P f args (.fu l)):aS P f args (.d (.sl l)):=by
 refine⟨h.1,λσ w vals hI hl hv=>(h.2 σ w vals hI hl hv).mono λe w' ⟨u,v,σ',s',h1,h2,h3,h4,h5,h6⟩=>?_⟩;subst h5 h6;cases h4 with|fu hx=>?_
 exact⟨_,_,σ',[],h1,h2,h3,.d hx,rfl,rfl⟩
theorem ZF (hs:re.every tZ=true) (h:re.kx<=8500) (ho:¬uV re):Re.gy re.kids<=8500:=by
 obtain⟨dL,jG⟩:=(Re.az re).1 hs;obtain⟨hc,Aq,Xn,h0⟩:=iA.1 dL;obtain⟨hb,Sp⟩:=gU.1 hc;obtain⟨q1,q2,q3,q4,q5,q6,q7,q8,q9,jd⟩:=fE.1 hb;have hz:=(sA (l:=re.kids) (λk hk=>ji k (nP (jG k hk)))).1;have hu:=Jx (re:=re) ae;unfold uV at ho;generalize Re.gy re.kids=z at *;rw[bm]at hu;by_cases o3:re.op=3
 ·rw[be o3]at hu;have:=q2 o3;omega
 rw[ap o3]at hu;by_cases o5:re.op=5
 ·rw[be o5]at hu;omega
 rw[ap o5]at hu;by_cases o4:re.op=4
 ·rw[be o4]at hu;by_cases om:re.mx=-1
  ·rw[be om]at hu;have:1*z<=(re.mn+1)*z:=alI ae ae;omega
  ·rw[ap om]at hu;exact Zdo
 ·rw[ap o4]at hu;omega
theorem TM (hs:re.every tZ=true) (h:re.kx<=8500) (ho:¬uV re):∀k∈re.kids,k.kx<=8500:=λk hk =>
 Int.le_trans (Et (λx hx=>(ji x (nP (((Re.az re).1 hs).2 x hx))).1) hk) (ZF hs h ho)
theorem UO {k k2:Re}{l:List Re} (hs:re.every tZ=true) (hz:re.kx<=8500) (o:re.op=3) (hk:re.kids=k::k2::l) (eX:l≠[]):(rU (k2::l)).every tZ=true/\(rU (k2::l)).kx<=8500/\(rU (k2::l)).size<=re.size-1:=by
 obtain⟨dL,jG⟩:=(Re.az re).1 hs;obtain⟨q1,q2,q3,q4,q5,q6,q7,q8,q9,jd⟩:=fE.1 (gU.1 (iA.1 dL).1).1;have hl:1<=l.length:=by cases l with|nil=>exact absurd rfl eX|cons a l=>simp
 have DH:∀x∈k2::l,x∈re.kids:=λx hx=>by rw[hk];exact List.mem_cons_of_mem _ hx
 have hr:(rU (k2::l)).every tZ=true:=by
  have e0:(rU (k2::l)).op=3:=rfl;have e1:(rU (k2::l)).mn=0:=rfl;have e2:(rU (k2::l)).mx=0:=rfl;have e3:(rU (k2::l)).n=0:=rfl;have e4:(rU (k2::l)).kids=k2::l:=rfl;have e5:(rU (k2::l)).set=[]:=rfl;rw[hk]at q3;refine(Re.az _).2 ⟨iA.2 ⟨gU.2 ⟨fE.2 ?_,?_⟩,?_⟩,λx hx=>jG x (DH x hx)⟩ <;> rw[e0] <;> simp only[e1,e2,e3,e4,e5]
  ·simp only[alg]at q3 ⊢;exact⟨λh=>ae,λ_=>ae,ae,Nat.zero_le _,ae,ae,ae,ae,ae,aF,ae,ae⟩
  ·omega
  ·exact⟨aF,λh=>absurd h aF,λh=>absurd h aF⟩
 have hu:=Jx (re:=re) ae;rw[o,bm,be rfl,hk]at hu;have jX:=(ji k (nP (jG k (by rw[hk];simp)))).1;refine⟨hr,?_,?_⟩
 ·have:(rU (k2::l)).kx=min (Re.gy (k2::l)+2*((k2::l).length:Int)-2) 10000:=by rw[Re.I1];rfl
  rw[this];simp only[Re.gy,alg]at hu ⊢
  push_cast at hu ⊢
  omega
 ·have e1:(rU (k2::l)).size=1+Re.da (k2::l):=Re.size_eq _;have e2:re.size=1+Re.da (k::k2::l):=by rw[<- hk];exact Re.size_eq _
  rw[e1,e2];have:=k.size_pos;simp only[Re.da];omega
theorem S1 (re:Re) (o:re.op=4) (f:Int) (hrep:lz prog 95 [lI re,i64 f] 5 ((re.code f).map kz.cells)):lz prog 55 [lI re,i64 f] 5 ((re.code f).map kz.cells):=by generalize List.map kz.cells (re.code f)=R at *;simp only[au re,i64,iD,bD,o]at hrep;show av _ _ _ _ _;refine pE func55 rfl ntmps55 results55 rfl 0 3063 aq aq ?_;simp only[zI,simprocAttr,au re,iD,bD,o];refine lz.call hrep rfl rfl λg=>?_;simp only[zI,simprocAttr,au re,iD,bD,o,tV];exact nZ (id:=1) eh eh rfl
theorem Dp:∀(n:Nat) (re:Re),re.size<=n->re.every tZ=true->re.kx<=8500->uP re/\(¬uV re->∀f:Int,0<=f->f<=1000000000000000000-100000000*re.size->lz prog 55 [lI re,i64 f] 5 ((re.code f).map kz.cells))
 |0,re,h,_,_=>by have:=re.size_pos;omega
 |n+1,re,h,hs,hz=>by
  obtain⟨dL,jG⟩:=(Re.az re).1 hs;obtain⟨xY,Aq,Xn,jX⟩:=iA.1 dL;obtain⟨q1,q2,q3,q4,q5,q6,q7,q8,q9,jd⟩:=fE.1 (gU.1 xY).1;by_cases hl:uV re
  ·refine⟨λf _ _=>?_,λh=>absurd hl h⟩;exact aS.qd (Ht re hs hl f)
  have LN:re.op=2\/re.op=3\/re.op=4\/re.op=5:=by unfold uV at hl;omega
  have Ar:=TM hs hz hl;have wV:∀k∈re.kids,uP k:=λk hk=>(Dp n k (by have:=Re.bZ hk;omega) (jG k hk) (Ar k hk)).1;have own:∀f:Int,0<=f->f<=1000000000000000000-100000000*re.size->lz prog 55 [lI re,i64 f] 5 ((re.code f).map kz.cells):=by
   intro f h0 h1;rcases LN with o|o|o|o
   ·exact UA re hs hz o wV f h0 h1
   ·have h2:=q2 o;obtain⟨k,k2,l,hk⟩:∃k k2 l,re.kids=k::k2::l:=by
     match hm:re.kids with
     |[]=>rw[hm]at h2;simp at h2
     |[_]=>rw[hm]at h2;simp at h2
     |k::k2::l=>exact⟨k,k2,l,rfl⟩
    refine UT re k k2 l hs hz o hk (wV k (by rw[hk];simp)) (wV k2 (by rw[hk];simp)) (λeX=>?_) f h0 h1;obtain⟨a1,a2,a3⟩:=UO hs hz o hk eX;exact(Dp n (rU (k2::l)) ae a1 a2).1
   ·obtain⟨k,hk⟩:=List.length_eq_one_iff.1 (Xn (.inl o));have hrep:=XC re k hs hz o hk (wV k (by rw[hk];simp)) f h0 h1;exact S1 re o f hrep
   ·obtain⟨k,hk⟩:=List.length_eq_one_iff.1 (Xn (.inr o));exact Vz re k hs hz o hk (wV k (by rw[hk];simp)) f h0 h1
  exact⟨λf h0 h1=>(own f h0 h1).pure,λ_=>own⟩
theorem KC (hc:aj<=9) (hn:bX re aj top=true) (hk:re.kids.length<=1000):uS re=true:=by
 obtain⟨⟨a1,a2,a3,a4⟩,b,c,d,e⟩:=eZ.1 hn;have fB:re.set.length<=64:=by
  split at b
  ·unfold iV at b;rw[alo]at b;exact of_decide_eq_true b.1
  ·omega
 have hnn:0<=re.n/\re.n<=9:=by
  split at d
  ·omega
  ·split at d <;> omega
 have dw:(re.op=4\/re.op=5->1<=re.kids.length)/\(re.op=3->2<=re.kids.length):=by
  unfold cE at a3;refine⟨λh=>?_,λh=>?_⟩
  ·rw[bm,rY]at a3;simp only at a3;omega
  ·rw[rY]at a3;simp only at a3;omega
 have hm:0<=re.mn/\re.mn<=32/\-1<=re.mx/\re.mx<=32/\(re.mx=-1\/re.mx=0\/re.mn<=re.mx)/\(re.op=4->re.mx=-1\/1<=re.mx/\re.mn<=re.mx):=by
  split at c
  ·omega
  ·omega
 exact gU.2 ⟨fE.2 ⟨dw.1,dw.2,hk,ae,hm.1,hm.2.1,hm.2.2.1,hm.2.2.2.1,hm.2.2.2.2.1,by unfold jD;omega,ae,ae⟩,hm.2.2.2.2.2⟩
theorem O7 (hc:aj<=9) (re:Re) (hw:re.whole aj top=true) (hz:re.size<=1000):re.every uS=true:=by revert hw hz;refine Re.ind (Q:=λre=>re.whole aj top=true->re.size<=1000->re.every uS=true) (λre ih hw hz=>?_) re;obtain⟨h1,h2⟩:=(Re.az re).1 hw;have hl:=Re.mX re.kids;have hs:=Re.size_eq re;exact(Re.az re).2 ⟨KC hc h1 ae,λk hk=>ih k hk (h2 k hk) (by have:=Re.bZ hk;omega)⟩
theorem XN (hc:aj<=9) (re:Re) (hw:re.whole aj top=true) (hz:re.size<=1000):∀a,re.comp a=true->re.every tZ=true:=by
 revert hw hz;refine Re.ind (Q:=λre=>re.whole aj top=true->re.size<=1000->∀a,re.comp a=true->re.every tZ=true) (λre ih hw hz a ha=>?_) re;obtain⟨h1,h2⟩:=(Re.az re).1 hw;have hl:=Re.mX re.kids;have hs:=Re.size_eq re;have hsh:=KC hc h1 ae;obtain⟨⟨a1,a2,a3,a4⟩,_⟩:=eZ.1 h1;rw[Re.wu]at ha;split at ha
 ·cases ha
 ·split at ha
  ·cases ha
  ·split at ha
   ·cases ha
   ·rename_i c1 c2 c3;rw[als]at ha;refine(Re.az re).2 ⟨iA.2 ⟨hsh,ae,λh=>?_,λh=>?_⟩,λk hk=>ih k hk (h2 k hk) (by have:=Re.bZ hk;omega) _ (ha k hk)⟩
    ·unfold cE at a3 a4;rw[bm,rY]at a3 a4;simp only at a3 a4;omega
    ·unfold cE at a4;rw[bm,bm,bm]at a4;simp only at a4;exact alz ae
def Eh:kz:=⟨0,0,0,0,[]⟩
def Y0 (p:fU):Nj:=⟨p.re.code 0++[Eh],p.aj,p.aM⟩
theorem MQ (p:fU) (hv:cI p=0) (hc:p.re.comp []=true) (hz:p.re.kx<=8191):aS prog 23 [bk p] (.tu [OJ (Y0 p),i64 0]):=by
 obtain⟨v1,v2,v3,v4,v5⟩:=cW hv;have hC:=O7 v4 p.re v5 ae;have hD:=XN v4 p.re v5 ae [] hc;have hf:p.re.df=true:=by
  exact Zbe
 have h1:=qk p hf ae;have h2:=P4 p.re [] (Kj hC) ae cV;have h3:=OD p.re hC;have h4:=Dp p.re.size p.re (ale _) hD ae;have X1:=ji p.re hC;have Ni:=pG p.re hD ae 0;have w1:IntKind.i64.wrap (p.re.kx+1)=p.re.kx+1:=bK _ ae;have c1:¬8192<p.re.kx+1:=ae;have tU:=Ht p.re hD;rw[hv]at h1;rw[hc]at h2;unfold Y0 OJ;cases p with
 |mk re aj aM =>
 have aix:re.code 0++[Eh]=re.code 0++[Eh]:=rfl;simp only at *;have xb:=λh=>h4.2 h 0 (alj _) ae;have TZ:=λh=>tU h 0;generalize re.code 0=L at *;simp only[bk,Re.ah re,ak8,ak9,ak5,ak6,au re,i64,iD,bD,bV]at h1 h2 h3 xb TZ;clear tU h4;by_cases hl:uV re
 ·have eF:=TZ hl;refine br func23 ntmps23 results23 0 31 ?_;simp only[zI,simprocAttr,bk,Re.ah,bV,iD,bD];refine dk h1 ?_;simp only[zI,simprocAttr,bk,Re.ah,bV,iD,bD,ne_eq,not_true_eq_false];refine bC [] eh (dk h2 ?_);simp only[zX,simprocAttr,bI,i64,bk,Re.ah,bV,iD,bD,alh,alk];refine dk h3 ?_;simp only[zI,simprocAttr,bk,Re.ah,bV,iD,bD,w1,c1,gt_iff_lt];refine aW cr.bu ?_;refine cP mix [] [(5,[2],[2]),(11,[1],[1])] ?_;simp only[zI,simprocAttr,bk,Re.ah,bV,iD,bD];refine HD eF ?_;simp only[zI,simprocAttr,bk,Re.ah,bV,iD,bD,Zm];refine⟨⟨ae,UP _,λe he=>by rw[List.mem_singleton.1 he];rfl⟩,?_⟩;rw[fI 7 0 _ _ _ aq,be aq];simp [Nj.cells,kz.cells,Eh,iD,bD]
 ·have eF:=xb hl;refine br func23 ntmps23 results23 0 31 ?_;simp only[zI,simprocAttr,bk,Re.ah,bV,iD,bD];refine dk h1 ?_;simp only[zI,simprocAttr,bk,Re.ah,bV,iD,bD,ne_eq,not_true_eq_false];refine bC [] eh (dk h2 ?_);simp only[zX,simprocAttr,bI,i64,bk,Re.ah,bV,iD,bD,alh,alk];refine dk h3 ?_;simp only[zI,simprocAttr,bk,Re.ah,bV,iD,bD,w1,c1,gt_iff_lt];refine aW cr.bu ?_;refine cP mix [] [(2,[2],[2]),(5,[2],[2]),(11,[1],[1])] ?_;simp only[zI,simprocAttr,bk,Re.ah,bV,iD,bD];refine⟨_,[_],rfl,λs' dL jG=>lz.hole (k:=2) (ob:=hole) eF rfl rfl (by rw[jG 2 aq];rfl) ⟨rfl,rfl⟩,?_⟩;simp only[zI,simprocAttr,bk,Re.ah,bV,iD,bD,aT,hole];refine⟨rfl,λe he=>by rw[List.mem_singleton.1 he];rfl,⟨ae,ae⟩,?_⟩;have hk:(List.map (λc=>List.map V.d c) (List.map kz.cells L))++[[V.d (D.sc (Value.int IntKind.i64 0)),V.d (D.sc (Value.int IntKind.i64 0)),V.d (D.sc (Value.int IntKind.i64 0)),V.d (D.sc (Value.int IntKind.i64 0)),V.d (D.sl [])]]=List.map (λc=>List.map V.d c) (List.map kz.cells (L++[Eh])):=by simp [kz.cells,Eh,iD]
  rw[po _ _ (ale _),hk,fI 7 0 _ _ _ aq,be aq];simp [Nj.cells,kz.cells,Eh,iD,bD]
end Go.Proofs.YtjjfioalgbecmaaGreat
