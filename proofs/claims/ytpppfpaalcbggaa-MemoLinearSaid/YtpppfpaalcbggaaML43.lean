/- A part of the proof (E1). -/
import Derived.Test.YtpppfpaalcbggaaML27
set_option linter.unusedSimpArgs false
set_option linter.unusedVariables false
set_option maxRecDepth 100000
set_option maxHeartbeats 80000000
namespace Go.Proofs.Ytpppfpaalcbggaa
open Go.VL Go.Proofs.Try
inductive ETask where
 | run (g:Goal) (i:Int) (c:CapsL)
 | rep (re:Re) (k:Int) (nx:Goal) (i:Int) (c:CapsL)
 | node (re:Re) (nx:Goal) (i:Int) (c:CapsL)
 | body (re:Re) (nx:Goal) (i:Int) (c:CapsL)
 | alt (l:List Re) (nx:Goal) (i:Int) (c:CapsL)
 | behind (re kid:Re) (nx:Goal) (i:Int) (c:CapsL) (j:Nat)
def Sst.sub (st:Sst):Sst:=⟨st.steps,false,[],[]⟩
def Sst.aft (st x:Sst):Sst:={ st with steps:=x.steps,empty:=x.empty }
def hereG (i:Int):Goal:=.mk 4 (.mk 0 [] [] 0 0 0 0 false) 0 i .nil
inductive EvI (t:List Int) (F:Int):Int→ETask→Sst→Bool→Sst→Prop where
 | found {most:Int} {i:Int} {c:CapsL} {st:Sst} (h0:0≤i) (h1:i≤t.length) (hl:st.caps.length=st.ends.length) (hl1:st.ends.length < 2000000000000):EvI t F most (.run .nil i c) st (decide (0≤most)&&decide (most≤(st.ends.length:Int) + 1)) { st with ends:=st.ends++[i],caps:=st.caps++[c] }
 | tree {most kind k f i:Int} {re:Re} {nx:Goal} {c:CapsL} {st st':Sst} {b:Bool} (hk1:kind≠1) (hk2:kind≠2) (hk3:kind≠3) (hk4:kind≠4) (h0:0≤i) (h1:i≤t.length) (h:EvI t F most (.node re nx i c) st b st'):EvI t F most (.run (.mk kind re k f nx) i c) st b st'
 | goRep {most k f i:Int} {re:Re} {nx:Goal} {c:CapsL} {st st':Sst} {b:Bool} (h0:0≤i) (h1:i≤t.length) (h:EvI t F most (.rep re k nx i c) st b st'):EvI t F most (.run (.mk 1 re k f nx) i c) st b st'
 | stay {most k f i:Int} {re:Re} {nx:Goal} {c:CapsL} {st:Sst} (h0:0≤i) (h1:i≤t.length) (hk:re.mn≤k) (hi:i=f):EvI t F most (.run (.mk 2 re k f nx) i c) st false st
 | iter {most k f i:Int} {re:Re} {nx:Goal} {c:CapsL} {st st':Sst} {b:Bool} (h0:0≤i) (h1:i≤t.length) (hk:¬(re.mn≤k∧i=f)) (hk0:0≤k) (hk1:k≤10000000000000) (h:EvI t F most (.run (.mk 1 re (k + 1) 0 nx) i c) st b st'):EvI t F most (.run (.mk 2 re k f nx) i c) st b st'
 | save {most k f i:Int} {re:Re} {nx:Goal} {c:CapsL} {st st':Sst} {b:Bool} (h0:0≤i) (h1:i≤t.length) (h:EvI t F most (.run nx i (withR c re.n f i)) st b st'):EvI t F most (.run (.mk 3 re k f nx) i c) st b st'
 | here {most k f i:Int} {re:Re} {nx:Goal} {c:CapsL} {st st':Sst} {b:Bool} (h0:0≤i) (h1:i≤t.length) (hi:i=f) (h:EvI t F most (.run nx i c) st b st'):EvI t F most (.run (.mk 4 re k f nx) i c) st b st'
 | gone {most k f i:Int} {re:Re} {nx:Goal} {c:CapsL} {st:Sst} (h0:0≤i) (h1:i≤t.length) (hi:i≠f):EvI t F most (.run (.mk 4 re k f nx) i c) st false st
 | possOut {most k i:Int} {re:Re} {nx:Goal} {c:CapsL} {st x:Sst} {b:Bool} (hm:re.mode=2) (h:EvI t F 1 (.run (.mk 1 (re.setMode 0) 0 0 .nil) i c) st.sub b x) (hx:x.empty=true):EvI t F most (.rep re k nx i c) st true (st.aft x)
 | possNo {most k i:Int} {re:Re} {nx:Goal} {c:CapsL} {st x:Sst} {b:Bool} (hm:re.mode=2) (h:EvI t F 1 (.run (.mk 1 (re.setMode 0) 0 0 .nil) i c) st.sub b x) (hx:x.empty=false) (he:x.ends=[]):EvI t F most (.rep re k nx i c) st false (st.aft x)
 | possYes {most k i e:Int} {re:Re} {nx:Goal} {c d:CapsL} {le:List Int} {ld:List CapsL} {st x st':Sst} {b b':Bool} (hm:re.mode=2) (h:EvI t F 1 (.run (.mk 1 (re.setMode 0) 0 0 .nil) i c) st.sub b x) (hx:x.empty=false) (he:x.ends=e::le) (hd:x.caps=d::ld) (h2:EvI t F most (.run nx e d) (st.aft x) b' st'):EvI t F most (.rep re k nx i c) st b' st'
 | repOut {most k i:Int} {re:Re} {nx:Goal} {c:CapsL} {st:Sst} (hm:re.mode≠2) (hs:0≤st.steps) (he:(st.step F).empty=true):EvI t F most (.rep re k nx i c) st true (st.step F)
 | repMin {most k i:Int} {re kid:Re} {l:List Re} {nx:Goal} {c:CapsL} {st st':Sst} {b:Bool} (hm:re.mode≠2) (hs:0≤st.steps) (he:(st.step F).empty=false) (hkk:re.kids=kid::l) (hk:k < re.mn) (h:EvI t F most (.run (.mk 0 kid 0 0 (.mk 2 re k i nx)) i c) (st.step F) b st'):EvI t F most (.rep re k nx i c) st b st'
 | repMax {most k i:Int} {re kid:Re} {l:List Re} {nx:Goal} {c:CapsL} {st st':Sst} {b:Bool} (hm:re.mode≠2) (hs:0≤st.steps) (he:(st.step F).empty=false) (hkk:re.kids=kid::l) (hk:¬k < re.mn) (hx:¬(re.mx=-1∨k < re.mx)) (h:EvI t F most (.run nx i c) (st.step F) b st'):EvI t F most (.rep re k nx i c) st b st'
 | lazyT {most k i:Int} {re kid:Re} {l:List Re} {nx:Goal} {c:CapsL} {st st':Sst} (hm:re.mode=1) (hs:0≤st.steps) (he:(st.step F).empty=false) (hkk:re.kids=kid::l) (hk:¬k < re.mn) (hx:re.mx=-1∨k < re.mx) (h:EvI t F most (.run nx i c) (st.step F) true st'):EvI t F most (.rep re k nx i c) st true st'
 | lazyF {most k i:Int} {re kid:Re} {l:List Re} {nx:Goal} {c:CapsL} {st s2 st':Sst} {b:Bool} (hm:re.mode=1) (hs:0≤st.steps) (he:(st.step F).empty=false) (hkk:re.kids=kid::l) (hk:¬k < re.mn) (hx:re.mx=-1∨k < re.mx) (h:EvI t F most (.run nx i c) (st.step F) false s2)
   (h2:EvI t F most (.run (.mk 0 kid 0 0 (.mk 2 re k i nx)) i c) s2 b st'):EvI t F most (.rep re k nx i c) st b st'
 | moreT {most k i:Int} {re kid:Re} {l:List Re} {nx:Goal} {c:CapsL} {st st':Sst} (hm:re.mode≠2) (hm1:re.mode≠1) (hs:0≤st.steps) (he:(st.step F).empty=false) (hkk:re.kids=kid::l) (hk:¬k < re.mn) (hx:re.mx=-1∨k < re.mx) (h:EvI t F most (.run (.mk 0 kid 0 0 (.mk 2 re k i nx)) i c) (st.step F) true st'):EvI t F most (.rep re k nx i c) st true st'
 | moreF {most k i:Int} {re kid:Re} {l:List Re} {nx:Goal} {c:CapsL} {st s2 st':Sst} {b:Bool} (hm:re.mode≠2) (hm1:re.mode≠1) (hs:0≤st.steps) (he:(st.step F).empty=false) (hkk:re.kids=kid::l) (hk:¬k < re.mn) (hx:re.mx=-1∨k < re.mx) (h:EvI t F most (.run (.mk 0 kid 0 0 (.mk 2 re k i nx)) i c) (st.step F) false s2)
   (h2:EvI t F most (.run nx i c) s2 b st'):EvI t F most (.rep re k nx i c) st b st'
 | nodeRep {most i:Int} {re:Re} {nx:Goal} {c:CapsL} {st st':Sst} {b:Bool} (ho:re.op=4) (h0:0≤i) (h1:i≤t.length) (h:EvI t F most (.rep re 0 nx i c) st b st'):EvI t F most (.node re nx i c) st b st'
 | nodeOut {most i:Int} {re:Re} {nx:Goal} {c:CapsL} {st:Sst} (ho:re.op≠4) (hs:0≤st.steps) (he:(st.step F).empty=true):EvI t F most (.node re nx i c) st true (st.step F)
 | node {most i:Int} {re:Re} {nx:Goal} {c:CapsL} {st st':Sst} {b:Bool} (ho:re.op≠4) (hs:0≤st.steps) (he:(st.step F).empty=false) (h:EvI t F most (.body re nx i c) (st.step F) b st'):EvI t F most (.node re nx i c) st b st'
 | empty {most i:Int} {re:Re} {nx:Goal} {c:CapsL} {st st':Sst} {b:Bool} (ho:re.op ∉ ([1,2,3,5,6,7,8,9,10,11]:List Int)) (h:EvI t F most (.run nx i c) st b st'):EvI t F most (.body re nx i c) st b st'
 | setYes {most i:Int} {re:Re} {nx:Goal} {c:CapsL} {st st':Sst} {b:Bool} (ho:re.op=1) (hi:i < t.length) (hs:inB re.set (tAt t i)=true) (h:EvI t F most (.run nx (i + 1) c) st b st'):EvI t F most (.body re nx i c) st b st'
 | setNo {most i:Int} {re:Re} {nx:Goal} {c:CapsL} {st:Sst} (ho:re.op=1) (hn:¬(i < t.length∧inB re.set (tAt t i)=true)):EvI t F most (.body re nx i c) st false st
 | cat {most i:Int} {re:Re} {nx:Goal} {c:CapsL} {st st':Sst} {b:Bool} (ho:re.op=2) (h:EvI t F most (.run (pushAll re.kids nx) i c) st b st'):EvI t F most (.body re nx i c) st b st'
 | alt {most i:Int} {re:Re} {nx:Goal} {c:CapsL} {st st':Sst} {b:Bool} (ho:re.op=3) (h:EvI t F most (.alt re.kids nx i c) st b st'):EvI t F most (.body re nx i c) st b st'
 | altNil {most i:Int} {nx:Goal} {c:CapsL} {st:Sst}:EvI t F most (.alt [] nx i c) st false st
 | altT {most i:Int} {kid:Re} {l:List Re} {nx:Goal} {c:CapsL} {st st':Sst} (h:EvI t F most (.run (.mk 0 kid 0 0 nx) i c) st true st'):EvI t F most (.alt (kid::l) nx i c) st true st'
 | altF {most i:Int} {kid:Re} {l:List Re} {nx:Goal} {c:CapsL} {st s2 st':Sst} {b:Bool} (h:EvI t F most (.run (.mk 0 kid 0 0 nx) i c) st false s2) (h2:EvI t F most (.alt l nx i c) s2 b st'):EvI t F most (.alt (kid::l) nx i c) st b st'
 | cap {most i:Int} {re kid:Re} {l:List Re} {nx:Goal} {c:CapsL} {st st':Sst} {b:Bool} (ho:re.op=5) (hkk:re.kids=kid::l) (h:EvI t F most (.run (.mk 0 kid 0 0 (.mk 3 re 0 i nx)) i c) st b st'):EvI t F most (.body re nx i c) st b st'
 | refNone {most i:Int} {re:Re} {nx:Goal} {c:CapsL} {st:Sst} (ho:re.op=6) (hx:(spanR c re.n).1 < 0):EvI t F most (.body re nx i c) st false st
 | refLong {most i:Int} {re:Re} {nx:Goal} {c:CapsL} {st:Sst} (ho:re.op=6) (hx:¬(spanR c re.n).1 < 0) (h12:¬(spanR c re.n).2 < (spanR c re.n).1) (h2:(spanR c re.n).2≤t.length) (hl:t.length < i + (spanR c re.n).2 - (spanR c re.n).1):EvI t F most (.body re nx i c) st false st
 | refYes {most i:Int} {re:Re} {nx:Goal} {c:CapsL} {st st':Sst} {b:Bool} (ho:re.op=6) (hx:¬(spanR c re.n).1 < 0) (h12:¬(spanR c re.n).2 < (spanR c re.n).1) (h2:(spanR c re.n).2≤t.length) (hl:¬t.length < i + (spanR c re.n).2 - (spanR c re.n).1) (hs:sameR t (spanR c re.n).1 i ((spanR c re.n).2 - (spanR c re.n).1).toNat=true)
   (h:EvI t F most (.run nx (i + (spanR c re.n).2 - (spanR c re.n).1) c) st b st'):EvI t F most (.body re nx i c) st b st'
 | refNo {most i:Int} {re:Re} {nx:Goal} {c:CapsL} {st:Sst} (ho:re.op=6) (hx:¬(spanR c re.n).1 < 0) (h12:¬(spanR c re.n).2 < (spanR c re.n).1) (h2:(spanR c re.n).2≤t.length) (hl:¬t.length < i + (spanR c re.n).2 - (spanR c re.n).1) (hs:sameR t (spanR c re.n).1 i ((spanR c re.n).2 - (spanR c re.n).1).toNat=false):EvI t F most (.body re nx i c) st false st
 | aheadOut {most i:Int} {re kid:Re} {l:List Re} {nx:Goal} {c:CapsL} {st x:Sst} {b:Bool} (ho:re.op=7) (hkk:re.kids=kid::l) (h:EvI t F 1 (.run (.mk 0 kid 0 0 .nil) i c) st.sub b x) (hx:x.empty=true):EvI t F most (.body re nx i c) st true (st.aft x)
 | aheadNo {most i:Int} {re kid:Re} {l:List Re} {nx:Goal} {c:CapsL} {st x:Sst} {b:Bool} (ho:re.op=7) (hkk:re.kids=kid::l) (h:EvI t F 1 (.run (.mk 0 kid 0 0 .nil) i c) st.sub b x) (hx:x.empty=false) (he:x.ends=[]) (hn:re.neg=false):EvI t F most (.body re nx i c) st false (st.aft x)
 | aheadNoNeg {most i:Int} {re kid:Re} {l:List Re} {nx:Goal} {c:CapsL} {st x st':Sst} {b b':Bool} (ho:re.op=7) (hkk:re.kids=kid::l) (h:EvI t F 1 (.run (.mk 0 kid 0 0 .nil) i c) st.sub b x) (hx:x.empty=false) (he:x.ends=[]) (hn:re.neg=true) (h2:EvI t F most (.run nx i c) (st.aft x) b' st'):EvI t F most (.body re nx i c) st b' st'
 | aheadYes {most i e:Int} {re kid:Re} {l:List Re} {nx:Goal} {c d:CapsL} {le:List Int} {ld:List CapsL} {st x st':Sst} {b b':Bool} (ho:re.op=7) (hkk:re.kids=kid::l) (h:EvI t F 1 (.run (.mk 0 kid 0 0 .nil) i c) st.sub b x) (hx:x.empty=false) (he:x.ends=e::le) (hd:x.caps=d::ld) (hn:re.neg=false) (h2:EvI t F most (.run nx i d) (st.aft x) b' st'):EvI t F most (.body re nx i c) st b' st'
 | aheadYesNeg {most i e:Int} {re kid:Re} {l:List Re} {nx:Goal} {c d:CapsL} {le:List Int} {ld:List CapsL} {st x:Sst} {b:Bool} (ho:re.op=7) (hkk:re.kids=kid::l) (h:EvI t F 1 (.run (.mk 0 kid 0 0 .nil) i c) st.sub b x) (hx:x.empty=false) (he:x.ends=e::le) (hd:x.caps=d::ld) (hn:re.neg=true):EvI t F most (.body re nx i c) st false (st.aft x)
 | behind {most i:Int} {re kid:Re} {l:List Re} {nx:Goal} {c:CapsL} {st st':Sst} {b:Bool} (ho:re.op=8) (hkk:re.kids=kid::l) (he:st.empty=false) (h:EvI t F most (.behind re kid nx i c (i.toNat + 1)) st b st'):EvI t F most (.body re nx i c) st b st'
 | bhNo {most i:Int} {re kid:Re} {nx:Goal} {c:CapsL} {st:Sst} (hn:re.neg=false):EvI t F most (.behind re kid nx i c 0) st false st
 | bhNoNeg {most i:Int} {re kid:Re} {nx:Goal} {c:CapsL} {st st':Sst} {b:Bool} (hn:re.neg=true) (h:EvI t F most (.run nx i c) st b st'):EvI t F most (.behind re kid nx i c 0) st b st'
 | bhOut {most i:Int} {j:Nat} {re kid:Re} {nx:Goal} {c:CapsL} {st x:Sst} {b:Bool} (h:EvI t F 1 (.run (.mk 0 kid 0 0 (hereG i)) j c) st.sub b x) (hx:x.empty=true):EvI t F most (.behind re kid nx i c (j + 1)) st true (st.aft x)
 | bhYes {most i e:Int} {j:Nat} {re kid:Re} {nx:Goal} {c d:CapsL} {le:List Int} {ld:List CapsL} {st x st':Sst} {b b':Bool} (h:EvI t F 1 (.run (.mk 0 kid 0 0 (hereG i)) j c) st.sub b x) (hx:x.empty=false) (he:x.ends=e::le) (hd:x.caps=d::ld) (hn:re.neg=false) (h2:EvI t F most (.run nx i d) (st.aft x) b' st'):EvI t F most (.behind re kid nx i c (j + 1)) st b' st'
 | bhYesNeg {most i e:Int} {j:Nat} {re kid:Re} {nx:Goal} {c d:CapsL} {le:List Int} {ld:List CapsL} {st x:Sst} {b:Bool} (h:EvI t F 1 (.run (.mk 0 kid 0 0 (hereG i)) j c) st.sub b x) (hx:x.empty=false) (he:x.ends=e::le) (hd:x.caps=d::ld) (hn:re.neg=true):EvI t F most (.behind re kid nx i c (j + 1)) st false (st.aft x)
 | bhMore {most i:Int} {j:Nat} {re kid:Re} {nx:Goal} {c:CapsL} {st x st':Sst} {b b':Bool} (h:EvI t F 1 (.run (.mk 0 kid 0 0 (hereG i)) j c) st.sub b x) (hx:x.empty=false) (he:x.ends=[]) (h2:EvI t F most (.behind re kid nx i c j) (st.aft x) b' st'):EvI t F most (.behind re kid nx i c (j + 1)) st b' st'
 | atomOut {most i:Int} {re kid:Re} {l:List Re} {nx:Goal} {c:CapsL} {st x:Sst} {b:Bool} (ho:re.op=9) (hkk:re.kids=kid::l) (h:EvI t F 1 (.run (.mk 0 kid 0 0 .nil) i c) st.sub b x) (hx:x.empty=true):EvI t F most (.body re nx i c) st true (st.aft x)
 | atomNo {most i:Int} {re kid:Re} {l:List Re} {nx:Goal} {c:CapsL} {st x:Sst} {b:Bool} (ho:re.op=9) (hkk:re.kids=kid::l) (h:EvI t F 1 (.run (.mk 0 kid 0 0 .nil) i c) st.sub b x) (hx:x.empty=false) (he:x.ends=[]):EvI t F most (.body re nx i c) st false (st.aft x)
 | atomYes {most i e:Int} {re kid:Re} {l:List Re} {nx:Goal} {c d:CapsL} {le:List Int} {ld:List CapsL} {st x st':Sst} {b b':Bool} (ho:re.op=9) (hkk:re.kids=kid::l) (h:EvI t F 1 (.run (.mk 0 kid 0 0 .nil) i c) st.sub b x) (hx:x.empty=false) (he:x.ends=e::le) (hd:x.caps=d::ld) (h2:EvI t F most (.run nx e d) (st.aft x) b' st'):EvI t F most (.body re nx i c) st b' st'
 | cond {most i:Int} {re yes no:Re} {l:List Re} {nx:Goal} {c:CapsL} {st st':Sst} {b:Bool} (ho:re.op=10) (hkk:re.kids=yes::no::l) (h:EvI t F most (.run (.mk 0 (if 0≤(spanR c re.n).1 then yes else no) 0 0 nx) i c) st b st'):EvI t F most (.body re nx i c) st b st'
 | assertYes {most i:Int} {re:Re} {nx:Goal} {c:CapsL} {st st':Sst} {b:Bool} (ho:re.op=11) (hh:holdsR re.n t i=true) (h:EvI t F most (.run nx i c) st b st'):EvI t F most (.body re nx i c) st b st'
 | assertNo {most i:Int} {re:Re} {nx:Goal} {c:CapsL} {st:Sst} (ho:re.op=11) (hh:holdsR re.n t i=false):EvI t F most (.body re nx i c) st false st
theorem firstR_inv {rec:Int→Task→Sst→Option (Bool × Sst)} {g:Goal} {i:Int} {c:CapsL} {st s2:Sst} {o:Option (Int × CapsL)} (h:firstR rec g i c st=some (o,s2)) :
  ∃b x,rec 1 (.run g i c) st.sub=some (b,x)∧s2=st.aft x∧((x.empty=true∧o=none)∨(x.empty=false∧x.ends=[]∧o=none)∨(x.empty=false∧∃e le d ld,x.ends=e::le∧x.caps=d::ld∧o=some (e,d))):=by
 unfold firstR at h
 unfold Sst.sub Sst.aft
 cases hx:rec 1 (.run g i c) ⟨st.steps,false,[],[]⟩ with
 | none=>rw[hx] at h; cases h
 | some y =>
  obtain⟨b,x⟩:=y
  rw[hx] at h
  simp only at h
  refine⟨b,x,rfl,?_⟩
  cases he:x.empty with
  | true =>
   rw[he,if_pos rfl] at h
   cases h
   exact⟨rfl,.inl ⟨rfl,rfl⟩⟩
  | false =>
   rw[he,if_neg Bool.false_ne_true] at h
   cases hE:x.ends with
   | nil =>
    rw[hE] at h
    cases h
    exact⟨rfl,.inr (.inl ⟨rfl,rfl,rfl⟩)⟩
   | cons e le =>
    cases hD:x.caps with
    | nil=>rw[hE,hD] at h; cases h
    | cons d ld =>
     rw[hE,hD] at h
     cases h
     exact⟨rfl,.inr (.inr ⟨rfl,e,le,d,ld,rfl,rfl,rfl⟩)⟩
def Task.e:Task→ETask
 | .run g i c=>.run g i c
 | .rep (.mk _ re k _ nx) i c=>.rep re k nx i c
 | .rep .nil i c=>.alt [] .nil i c
 | .node (.mk _ re _ _ nx) i c=>.node re nx i c
 | .node .nil i c=>.alt [] .nil i c
section conv
variable {t:List Int} {F:Int} {rec:Int→Task→Sst→Option (Bool × Sst)} (hrec:∀most task st b st',rec most task st=some (b,st')→EvI t F most task.e st b st')
include hrec
theorem alt_evI {most:Int} {nx:Goal} {i:Int} {c:CapsL}:∀(l:List Re) (st st':Sst) (b:Bool),altR (fun k st=>rec most (.run (.mk 0 k 0 0 nx) i c) st) l st=some (b,st')→EvI t F most (.alt l nx i c) st b st'
 | [],st,st',b,h=>by simp only[altR] at h; cases h; exact .altNil
 | k::l,st,st',b,h=>by
  simp only[altR] at h
  cases hx:rec most (.run (.mk 0 k 0 0 nx) i c) st with
  | none=>rw[hx] at h; cases h
  | some y =>
   obtain⟨b1,s2⟩:=y
   rw[hx] at h
   have h1:=hrec _ _ _ _ _ hx
   cases b1 with
   | true=>simp only[orR] at h; cases h; exact .altT h1
   | false=>simp only[orR] at h; exact .altF h1 (alt_evI l s2 st' b h)
theorem behind_evI {most:Int} {re kid:Re} {nx:Goal} {i:Int} {c:CapsL} {b:Bool} {st':Sst}:∀(j:Nat) (st s2:Sst) (ro:Option CapsL),st.empty=false→behindR (fun k st=>firstR rec (.mk 0 kid 0 0 (hereG i)) k c st) j st=some (ro,s2) →
  (if s2.empty then some (true,s2) else if re.neg=true then (match ro with | some _=>some (false,s2) | none=>rec most (.run nx i c) s2) else match ro with | some d=>rec most (.run nx i d) s2 | none=>some (false,s2))=some (b,st')→EvI t F most (.behind re kid nx i c j) st b st'
 | 0,st,s2,ro,he,hb,h=>by
  simp only[behindR] at hb
  cases hb
  rw[if_neg (by rw[he]; exact Bool.false_ne_true)] at h
  by_cases hn:re.neg=true
  ·rw[if_pos hn] at h; exact .bhNoNeg hn (hrec _ _ _ _ _ h)
  ·rw[if_neg hn] at h; cases h; exact .bhNo (by simpa using hn)
 | j + 1,st,s2,ro,he,hb,h=>by
  simp only[behindR] at hb
  rw[if_neg (by rw[he]; exact Bool.false_ne_true)] at hb
  cases hf:firstR rec (.mk 0 kid 0 0 (hereG i)) j c st with
  | none=>rw[hf] at hb; cases hb
  | some y =>
   obtain⟨o,s3⟩:=y
   rw[hf] at hb
   obtain⟨b1,x,k1,rfl,k2⟩:=firstR_inv hf
   have h1:=hrec _ _ _ _ _ k1
   rcases k2 with ⟨e1,rfl⟩ | ⟨e1,e2,rfl⟩ | ⟨e1,e,le,d,ld,e2,e3,rfl⟩
   ·have hae:(st.aft x).empty=true:=e1
    simp only at hb
    have hb2:(ro,s2)=(none,st.aft x):=by
     cases j with
     | zero=>simp only[behindR] at hb; exact(Option.some.inj hb).symm
     | succ j=>simp only[behindR] at hb; rw[if_pos hae] at hb; exact(Option.some.inj hb).symm
    cases hb2
    rw[if_pos hae] at h
    cases h
    exact .bhOut h1 e1
   ·simp only at hb
    exact .bhMore h1 e1 e2 (behind_evI j _ s2 ro e1 hb h)
   ·simp only at hb
    cases hb
    rw[if_neg (by show ¬x.empty=true; rw[e1]; exact Bool.false_ne_true)] at h
    by_cases hn:re.neg=true
    ·rw[if_pos hn] at h; cases h; exact .bhYesNeg h1 e1 e2 e3 hn
    ·rw[if_neg hn] at h; exact .bhYes h1 e1 e2 e3 (by simpa using hn) (hrec _ _ _ _ _ h)
theorem body_evI {most:Int} {re:Re} {nx:Goal} {i:Int} {c:CapsL} {st st':Sst} {b:Bool} (hse:st.empty=false) (h:nodeR t rec most re nx i c st=some (b,st')):EvI t F most (.body re nx i c) st b st':=by
 unfold nodeR at h
 by_cases o1:re.op=1
 ·rw[if_pos o1] at h
  by_cases hc:i < t.length∧inB re.set (tAt t i)=true
  ·rw[if_pos hc] at h; exact .setYes o1 hc.1 hc.2 (hrec _ _ _ _ _ h)
  ·rw[if_neg hc] at h; cases h; exact .setNo o1 hc
 rw[if_neg o1] at h
 by_cases o2:re.op=2
 ·rw[if_pos o2] at h; exact .cat o2 (hrec _ _ _ _ _ h)
 rw[if_neg o2] at h
 by_cases o3:re.op=3
 ·rw[if_pos o3] at h; exact .alt o3 (alt_evI hrec _ _ _ _ h)
 rw[if_neg o3] at h
 by_cases o5:re.op=5
 ·rw[if_pos o5] at h
  cases hk:re.kids with
  | nil=>rw[hk] at h; cases h
  | cons k l=>rw[hk] at h; exact .cap o5 hk (hrec _ _ _ _ _ h)
 rw[if_neg o5] at h
 by_cases o6:re.op=6
 ·rw[if_pos o6] at h
  simp only at h
  by_cases c1:(spanR c re.n).1 < 0
  ·rw[if_pos c1] at h; cases h; exact .refNone o6 c1
  rw[if_neg c1] at h
  by_cases c2:(spanR c re.n).2 < (spanR c re.n).1∨(t.length:Int) < (spanR c re.n).2
  ·rw[if_pos c2] at h; cases h
  rw[if_neg c2] at h
  by_cases c3:t.length < i + (spanR c re.n).2 - (spanR c re.n).1
  ·rw[if_pos c3] at h; cases h; exact .refLong o6 c1 (by omega) (by omega) c3
  rw[if_neg c3] at h
  by_cases c4:sameR t (spanR c re.n).1 i ((spanR c re.n).2 - (spanR c re.n).1).toNat=true
  ·rw[if_pos c4] at h; exact .refYes o6 c1 (by omega) (by omega) c3 c4 (hrec _ _ _ _ _ h)
  ·rw[if_neg c4] at h; cases h; exact .refNo o6 c1 (by omega) (by omega) c3 (by simpa using c4)
 rw[if_neg o6] at h
 by_cases o7:re.op=7∨re.op=8
 ·rw[if_pos o7] at h
  cases hk:re.kids with
  | nil=>rw[hk] at h; cases h
  | cons k l =>
   rw[hk] at h
   simp only at h
   cases hx:lookR rec re.op k i c st with
   | none=>rw[hx] at h; cases h
   | some y =>
    obtain⟨ro,s2⟩:=y
    rw[hx] at h
    simp only at h
    unfold lookR at hx
    by_cases p7:re.op=7
    ·rw[if_pos p7] at hx
     cases hf:firstR rec (.mk 0 k 0 0 .nil) i c st with
     | none=>rw[hf] at hx; cases hx
     | some z =>
      obtain⟨o,s3⟩:=z
      rw[hf] at hx
      cases hx
      obtain⟨b1,x,k1,rfl,k2⟩:=firstR_inv hf
      have h1:=hrec _ _ _ _ _ k1
      rcases k2 with ⟨e1,rfl⟩ | ⟨e1,e2,rfl⟩ | ⟨e1,e,le,d,ld,e2,e3,rfl⟩
      ·rw[if_pos (show (st.aft x).empty=true from e1)] at h
       cases h
       exact .aheadOut p7 hk h1 e1
      ·rw[if_neg (by show ¬x.empty=true; rw[e1]; exact Bool.false_ne_true)] at h
       by_cases hn:re.neg=true
       ·rw[if_pos hn] at h; exact .aheadNoNeg p7 hk h1 e1 e2 hn (hrec _ _ _ _ _ h)
       ·rw[if_neg hn] at h; cases h; exact .aheadNo p7 hk h1 e1 e2 (by simpa using hn)
      ·rw[if_neg (by show ¬x.empty=true; rw[e1]; exact Bool.false_ne_true)] at h
       by_cases hn:re.neg=true
       ·rw[if_pos hn] at h; cases h; exact .aheadYesNeg p7 hk h1 e1 e2 e3 hn
       ·rw[if_neg hn] at h; exact .aheadYes p7 hk h1 e1 e2 e3 (by simpa using hn) (hrec _ _ _ _ _ h)
    ·rw[if_neg p7] at hx
     exact .behind (by omega) hk hse (behind_evI hrec _ _ _ _ hse hx h)
 rw[if_neg o7] at h
 by_cases o9:re.op=9
 ·rw[if_pos o9] at h
  cases hk:re.kids with
  | nil=>rw[hk] at h; cases h
  | cons k l =>
   rw[hk] at h
   simp only at h
   cases hf:firstR rec (.mk 0 k 0 0 .nil) i c st with
   | none=>rw[hf] at h; cases h
   | some z =>
    obtain⟨o,s3⟩:=z
    rw[hf] at h
    simp only at h
    obtain⟨b1,x,k1,rfl,k2⟩:=firstR_inv hf
    have h1:=hrec _ _ _ _ _ k1
    rcases k2 with ⟨e1,rfl⟩ | ⟨e1,e2,rfl⟩ | ⟨e1,e,le,d,ld,e2,e3,rfl⟩
    ·rw[if_pos (show (st.aft x).empty=true from e1)] at h
     cases h
     exact .atomOut o9 hk h1 e1
    ·rw[if_neg (by show ¬x.empty=true; rw[e1]; exact Bool.false_ne_true)] at h
     cases h
     exact .atomNo o9 hk h1 e1 e2
    ·rw[if_neg (by show ¬x.empty=true; rw[e1]; exact Bool.false_ne_true)] at h
     exact .atomYes o9 hk h1 e1 e2 e3 (hrec _ _ _ _ _ h)
 rw[if_neg o9] at h
 by_cases o10:re.op=10
 ·rw[if_pos o10] at h
  match hk:re.kids with
  | []=>rw[hk] at h; cases h
  | [_]=>rw[hk] at h; cases h
  | yes::no::l=>rw[hk] at h; exact .cond o10 hk (hrec _ _ _ _ _ h)
 rw[if_neg o10] at h
 by_cases o11:re.op=11
 ·rw[if_pos o11] at h
  by_cases q:holdsR re.n t i=true
  ·rw[if_pos q] at h; exact .assertYes o11 q (hrec _ _ _ _ _ h)
  ·rw[if_neg q] at h; cases h; exact .assertNo o11 (by simpa using q)
 rw[if_neg o11] at h
 exact .empty (by simp; omega) (hrec _ _ _ _ _ h)
theorem rep_evI {most:Int} {re:Re} {k:Int} {nx:Goal} {i:Int} {c:CapsL} {st st':Sst} {b:Bool} (h:repR F rec most re k nx i c st=some (b,st')):EvI t F most (.rep re k nx i c) st b st':=by
 unfold repR at h
 by_cases hm:re.mode=2
 ·rw[if_pos hm] at h
  cases hf:firstR rec (.mk 1 (re.setMode 0) 0 0 .nil) i c st with
  | none=>rw[hf] at h; cases h
  | some z =>
   obtain⟨o,s3⟩:=z
   rw[hf] at h
   simp only at h
   obtain⟨b1,x,k1,rfl,k2⟩:=firstR_inv hf
   have h1:=hrec _ _ _ _ _ k1
   rcases k2 with ⟨e1,rfl⟩ | ⟨e1,e2,rfl⟩ | ⟨e1,e,le,d,ld,e2,e3,rfl⟩
   ·simp only at h
    obtain⟨rfl,rfl⟩:=Prod.mk.inj (Option.some.inj h)
    have:=EvI.possOut (most:=most) (k:=k) (nx:=nx) hm h1 e1
    rwa [← show (st.aft x).empty=true from e1] at this
   ·simp only at h
    obtain⟨rfl,rfl⟩:=Prod.mk.inj (Option.some.inj h)
    have:=EvI.possNo (most:=most) (k:=k) (nx:=nx) hm h1 e1 e2
    rwa [← show (st.aft x).empty=false from e1] at this
   ·simp only at h
    exact .possYes hm h1 e1 e2 e3 (hrec _ _ _ _ _ h)
 rw[if_neg hm] at h
 by_cases hs:st.steps < 0∨10000000000000 < st.steps
 ·rw[if_pos hs] at h; cases h
 rw[if_neg hs] at h
 simp only at h
 have hs0:0≤st.steps:=by omega
 by_cases he:(st.step F).empty=true
 ·rw[if_pos he] at h; cases h; exact .repOut hm hs0 he
 rw[if_neg he] at h
 have he:(st.step F).empty=false:=by simpa using he
 cases hk:re.kids with
 | nil=>rw[hk] at h; cases h
 | cons kid l =>
  rw[hk] at h
  simp only at h
  by_cases c2:k < re.mn
  ·rw[if_pos c2] at h; exact .repMin hm hs0 he hk c2 (hrec _ _ _ _ _ h)
  rw[if_neg c2] at h
  by_cases m1:re.mode=1
  ·rw[if_pos m1] at h
   cases hx:rec most (.run nx i c) (st.step F) with
   | none=>rw[hx] at h; cases h
   | some y =>
    obtain⟨b1,s2⟩:=y
    rw[hx] at h
    have h1:=hrec _ _ _ _ _ hx
    by_cases cM:re.mx=-1∨k < re.mx
    ·cases b1 with
     | true=>simp only[orR] at h; cases h; exact .lazyT m1 hs0 he hk c2 cM h1
     | false=>simp only[orR] at h; rw[if_pos cM] at h; exact .lazyF m1 hs0 he hk c2 cM h1 (hrec _ _ _ _ _ h)
    ·cases b1 with
     | true=>simp only[orR] at h; cases h; exact .repMax hm hs0 he hk c2 cM h1
     | false=>simp only[orR] at h; rw[if_neg cM] at h; cases h; exact .repMax hm hs0 he hk c2 cM h1
  ·rw[if_neg m1] at h
   by_cases cM:re.mx=-1∨k < re.mx
   ·rw[if_pos cM] at h
    cases hx:rec most (.run (.mk 0 kid 0 0 (.mk 2 re k i nx)) i c) (st.step F) with
    | none=>rw[hx] at h; cases h
    | some y =>
     obtain⟨b1,s2⟩:=y
     rw[hx] at h
     have h1:=hrec _ _ _ _ _ hx
     cases b1 with
     | true=>simp only[orR] at h; cases h; exact .moreT hm m1 hs0 he hk c2 cM h1
     | false=>simp only[orR] at h; exact .moreF hm m1 hs0 he hk c2 cM h1 (hrec _ _ _ _ _ h)
   ·rw[if_neg cM] at h
    simp only[orR] at h
    exact .repMax hm hs0 he hk c2 cM (hrec _ _ _ _ _ h)
end conv
theorem evI_of {t:List Int} {F:Int}:∀(n:Nat) (most:Int) (task:Task) (st:Sst) (b:Bool) (st':Sst),evR t F n most task st=some (b,st')→EvI t F most task.e st b st'
 | 0,_,_,_,_,_,h=>by cases h
 | n + 1,most,task,st,b,st',h=>by
  have hrec:=evI_of (t:=t) (F:=F) n
  replace h:evStep t F (evR t F n) most task st=some (b,st'):=h
  cases task with
  | run g i c =>
   simp only[evStep] at h
   split at h
   ·cases h
   rename_i hi
   have h0:0≤i:=by omega
   have h1:i≤t.length:=by omega
   cases g with
   | nil =>
    simp only at h
    split at h
    ·rename_i hl
     obtain⟨rfl,rfl⟩:=Prod.mk.inj (Option.some.inj h)
     exact .found h0 h1 hl.2 hl.1
    ·cases h
   | mk kind re k f nx =>
    simp only at h
    by_cases k1:kind=1
    ·rw[if_pos k1] at h; subst k1; exact .goRep h0 h1 (hrec _ _ _ _ _ h)
    rw[if_neg k1] at h
    by_cases k2:kind=2
    ·rw[if_pos k2] at h; subst k2
     by_cases q:re.mn≤k∧i=f
     ·rw[if_pos q] at h; cases h; exact .stay h0 h1 q.1 q.2
     rw[if_neg q] at h
     split at h
     ·cases h
     exact .iter h0 h1 q (by omega) (by omega) (hrec _ _ _ _ _ h)
    rw[if_neg k2] at h
    by_cases k3:kind=3
    ·rw[if_pos k3] at h; subst k3
     split at h
     ·cases h
     exact .save h0 h1 (hrec _ _ _ _ _ h)
    rw[if_neg k3] at h
    by_cases k4:kind=4
    ·rw[if_pos k4] at h; subst k4
     by_cases q:i=f
     ·rw[if_pos q] at h; exact .here h0 h1 q (hrec _ _ _ _ _ h)
     ·rw[if_neg q] at h; cases h; exact .gone h0 h1 q
    rw[if_neg k4] at h
    exact .tree k1 k2 k3 k4 h0 h1 (hrec _ _ _ _ _ h)
  | rep g i c =>
   simp only[evStep] at h
   split at h
   ·cases h
   cases g with
   | nil=>cases h
   | mk kind re k f nx=>exact rep_evI hrec h
  | node g i c =>
   simp only[evStep] at h
   split at h
   ·cases h
   rename_i hi
   cases g with
   | nil=>cases h
   | mk kind re k f nx =>
    simp only at h
    by_cases o4:re.op=4
    ·rw[if_pos o4] at h; exact .nodeRep o4 (by omega) (by omega) (hrec _ _ _ _ _ h)
    rw[if_neg o4] at h
    split at h
    ·cases h
    split at h
    ·cases h
    rename_i hs
    have hs0:0≤st.steps:=by omega
    by_cases he:(st.step F).empty=true
    ·rw[if_pos he] at h; cases h; exact .nodeOut o4 hs0 he
    ·rw[if_neg he] at h
     have he:(st.step F).empty=false:=by simpa using he
     exact .node o4 hs0 he (body_evI hrec he h)
theorem EvI.steps {t:List Int} {F most:Int} {task:ETask} {st st':Sst} {b:Bool} (h:EvI t F most task st b st'):st.steps≤st'.steps:=by
 induction h <;> (try simp only[Sst.sub,Sst.aft,Sst.step] at *) <;> omega
end Go.Proofs.Ytpppfpaalcbggaa
