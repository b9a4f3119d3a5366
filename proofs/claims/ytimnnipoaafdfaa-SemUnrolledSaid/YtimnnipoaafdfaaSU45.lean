/- A part of the proof (E20 E21 E22). -/
import Derived.Test.YtimnnipoaafdfaaSU5
import Derived.Test.YtimnnipoaafdfaaSU29
set_option linter.unusedSimpArgs false
set_option linter.unusedVariables false
set_option maxRecDepth 100000
set_option maxHeartbeats 80000000
namespace Go.Proofs.Ytimnnipoaafdfaa
open Go.VL Go.Proofs.Try
abbrev ResL:=List (Int × CapsL)
inductive EvR (t:List Int):Int→ETask→ResL→Bool→ResL→Prop where
 | found {most:Int} {i:Int} {c:CapsL} {st:ResL}:EvR t most (.run .nil i c) st (decide (0≤most)&&decide (most≤(st.length:Int) + 1)) (st++[(i,c)])
 | tree {most kind k f i:Int} {re:Re} {nx:Goal} {c:CapsL} {st st':ResL} {b:Bool} (hk1:kind≠1) (hk2:kind≠2) (hk3:kind≠3) (hk4:kind≠4) (h:EvR t most (.node re nx i c) st b st'):EvR t most (.run (.mk kind re k f nx) i c) st b st'
 | goRep {most k f i:Int} {re:Re} {nx:Goal} {c:CapsL} {st st':ResL} {b:Bool} (h:EvR t most (.rep re k nx i c) st b st'):EvR t most (.run (.mk 1 re k f nx) i c) st b st'
 | stay {most k f i:Int} {re:Re} {nx:Goal} {c:CapsL} {st:ResL} (hk:re.mn≤k) (hi:i=f):EvR t most (.run (.mk 2 re k f nx) i c) st false st
 | iter {most k f i:Int} {re:Re} {nx:Goal} {c:CapsL} {st st':ResL} {b:Bool} (hk:¬(re.mn≤k∧i=f)) (h:EvR t most (.run (.mk 1 re (k + 1) 0 nx) i c) st b st'):EvR t most (.run (.mk 2 re k f nx) i c) st b st'
 | save {most k f i:Int} {re:Re} {nx:Goal} {c:CapsL} {st st':ResL} {b:Bool} (h:EvR t most (.run nx i (withR c re.n f i)) st b st'):EvR t most (.run (.mk 3 re k f nx) i c) st b st'
 | here {most k f i:Int} {re:Re} {nx:Goal} {c:CapsL} {st st':ResL} {b:Bool} (hi:i=f) (h:EvR t most (.run nx i c) st b st'):EvR t most (.run (.mk 4 re k f nx) i c) st b st'
 | gone {most k f i:Int} {re:Re} {nx:Goal} {c:CapsL} {st:ResL} (hi:i≠f):EvR t most (.run (.mk 4 re k f nx) i c) st false st
 | possNo {most k i:Int} {re:Re} {nx:Goal} {c:CapsL} {st x:ResL} {b:Bool} (hm:re.mode=2) (h:EvR t 1 (.run (.mk 1 (re.setMode 0) 0 0 .nil) i c) [] b x) (he:x=[]):EvR t most (.rep re k nx i c) st false st
 | possYes {most k i e:Int} {re:Re} {nx:Goal} {c d:CapsL} {ld:ResL} {st x st':ResL} {b b':Bool} (hm:re.mode=2) (h:EvR t 1 (.run (.mk 1 (re.setMode 0) 0 0 .nil) i c) [] b x) (he:x=(e,d)::ld) (h2:EvR t most (.run nx e d) st b' st'):EvR t most (.rep re k nx i c) st b' st'
 | repMin {most k i:Int} {re kid:Re} {l:List Re} {nx:Goal} {c:CapsL} {st st':ResL} {b:Bool} (hm:re.mode≠2) (hkk:re.kids=kid::l) (hk:k < re.mn) (h:EvR t most (.run (.mk 0 kid 0 0 (.mk 2 re k i nx)) i c) st b st'):EvR t most (.rep re k nx i c) st b st'
 | repMax {most k i:Int} {re kid:Re} {l:List Re} {nx:Goal} {c:CapsL} {st st':ResL} {b:Bool} (hm:re.mode≠2) (hkk:re.kids=kid::l) (hk:¬k < re.mn) (hx:¬(re.mx=-1∨k < re.mx)) (h:EvR t most (.run nx i c) st b st'):EvR t most (.rep re k nx i c) st b st'
 | lazyT {most k i:Int} {re kid:Re} {l:List Re} {nx:Goal} {c:CapsL} {st st':ResL} (hm:re.mode=1) (hkk:re.kids=kid::l) (hk:¬k < re.mn) (hx:re.mx=-1∨k < re.mx) (h:EvR t most (.run nx i c) st true st'):EvR t most (.rep re k nx i c) st true st'
 | lazyF {most k i:Int} {re kid:Re} {l:List Re} {nx:Goal} {c:CapsL} {st s2 st':ResL} {b:Bool} (hm:re.mode=1) (hkk:re.kids=kid::l) (hk:¬k < re.mn) (hx:re.mx=-1∨k < re.mx) (h:EvR t most (.run nx i c) st false s2)
   (h2:EvR t most (.run (.mk 0 kid 0 0 (.mk 2 re k i nx)) i c) s2 b st'):EvR t most (.rep re k nx i c) st b st'
 | moreT {most k i:Int} {re kid:Re} {l:List Re} {nx:Goal} {c:CapsL} {st st':ResL} (hm:re.mode≠2) (hm1:re.mode≠1) (hkk:re.kids=kid::l) (hk:¬k < re.mn) (hx:re.mx=-1∨k < re.mx) (h:EvR t most (.run (.mk 0 kid 0 0 (.mk 2 re k i nx)) i c) st true st'):EvR t most (.rep re k nx i c) st true st'
 | moreF {most k i:Int} {re kid:Re} {l:List Re} {nx:Goal} {c:CapsL} {st s2 st':ResL} {b:Bool} (hm:re.mode≠2) (hm1:re.mode≠1) (hkk:re.kids=kid::l) (hk:¬k < re.mn) (hx:re.mx=-1∨k < re.mx) (h:EvR t most (.run (.mk 0 kid 0 0 (.mk 2 re k i nx)) i c) st false s2)
   (h2:EvR t most (.run nx i c) s2 b st'):EvR t most (.rep re k nx i c) st b st'
 | nodeRep {most i:Int} {re:Re} {nx:Goal} {c:CapsL} {st st':ResL} {b:Bool} (ho:re.op=4) (h:EvR t most (.rep re 0 nx i c) st b st'):EvR t most (.node re nx i c) st b st'
 | node {most i:Int} {re:Re} {nx:Goal} {c:CapsL} {st st':ResL} {b:Bool} (ho:re.op≠4) (h:EvR t most (.body re nx i c) st b st'):EvR t most (.node re nx i c) st b st'
 | empty {most i:Int} {re:Re} {nx:Goal} {c:CapsL} {st st':ResL} {b:Bool} (ho:re.op ∉ ([1,2,3,5,6,7,8,9,10,11]:List Int)) (h:EvR t most (.run nx i c) st b st'):EvR t most (.body re nx i c) st b st'
 | setYes {most i:Int} {re:Re} {nx:Goal} {c:CapsL} {st st':ResL} {b:Bool} (ho:re.op=1) (hi:i < t.length) (hs:inB re.set (tAt t i)=true) (h:EvR t most (.run nx (i + 1) c) st b st'):EvR t most (.body re nx i c) st b st'
 | setNo {most i:Int} {re:Re} {nx:Goal} {c:CapsL} {st:ResL} (ho:re.op=1) (hn:¬(i < t.length∧inB re.set (tAt t i)=true)):EvR t most (.body re nx i c) st false st
 | cat {most i:Int} {re:Re} {nx:Goal} {c:CapsL} {st st':ResL} {b:Bool} (ho:re.op=2) (h:EvR t most (.run (pushAll re.kids nx) i c) st b st'):EvR t most (.body re nx i c) st b st'
 | alt {most i:Int} {re:Re} {nx:Goal} {c:CapsL} {st st':ResL} {b:Bool} (ho:re.op=3) (h:EvR t most (.alt re.kids nx i c) st b st'):EvR t most (.body re nx i c) st b st'
 | altNil {most i:Int} {nx:Goal} {c:CapsL} {st:ResL}:EvR t most (.alt [] nx i c) st false st
 | altT {most i:Int} {kid:Re} {l:List Re} {nx:Goal} {c:CapsL} {st st':ResL} (h:EvR t most (.run (.mk 0 kid 0 0 nx) i c) st true st'):EvR t most (.alt (kid::l) nx i c) st true st'
 | altF {most i:Int} {kid:Re} {l:List Re} {nx:Goal} {c:CapsL} {st s2 st':ResL} {b:Bool} (h:EvR t most (.run (.mk 0 kid 0 0 nx) i c) st false s2) (h2:EvR t most (.alt l nx i c) s2 b st'):EvR t most (.alt (kid::l) nx i c) st b st'
 | cap {most i:Int} {re kid:Re} {l:List Re} {nx:Goal} {c:CapsL} {st st':ResL} {b:Bool} (ho:re.op=5) (hkk:re.kids=kid::l) (h:EvR t most (.run (.mk 0 kid 0 0 (.mk 3 re 0 i nx)) i c) st b st'):EvR t most (.body re nx i c) st b st'
 | refNone {most i:Int} {re:Re} {nx:Goal} {c:CapsL} {st:ResL} (ho:re.op=6) (hx:(spanR c re.n).1 < 0):EvR t most (.body re nx i c) st false st
 | refLong {most i:Int} {re:Re} {nx:Goal} {c:CapsL} {st:ResL} (ho:re.op=6) (hx:¬(spanR c re.n).1 < 0) (hl:t.length < i + (spanR c re.n).2 - (spanR c re.n).1):EvR t most (.body re nx i c) st false st
 | refYes {most i:Int} {re:Re} {nx:Goal} {c:CapsL} {st st':ResL} {b:Bool} (ho:re.op=6) (hx:¬(spanR c re.n).1 < 0) (h12:¬(spanR c re.n).2 < (spanR c re.n).1) (hl:¬t.length < i + (spanR c re.n).2 - (spanR c re.n).1) (hs:sameR t (spanR c re.n).1 i ((spanR c re.n).2 - (spanR c re.n).1).toNat=true)
   (h:EvR t most (.run nx (i + (spanR c re.n).2 - (spanR c re.n).1) c) st b st'):EvR t most (.body re nx i c) st b st'
 | refNo {most i:Int} {re:Re} {nx:Goal} {c:CapsL} {st:ResL} (ho:re.op=6) (hx:¬(spanR c re.n).1 < 0) (hl:¬t.length < i + (spanR c re.n).2 - (spanR c re.n).1) (hs:sameR t (spanR c re.n).1 i ((spanR c re.n).2 - (spanR c re.n).1).toNat=false):EvR t most (.body re nx i c) st false st
 | aheadNo {most i:Int} {re kid:Re} {l:List Re} {nx:Goal} {c:CapsL} {st x:ResL} {b:Bool} (ho:re.op=7) (hkk:re.kids=kid::l) (h:EvR t 1 (.run (.mk 0 kid 0 0 .nil) i c) [] b x) (he:x=[]) (hn:re.neg=false):EvR t most (.body re nx i c) st false st
 | aheadNoNeg {most i:Int} {re kid:Re} {l:List Re} {nx:Goal} {c:CapsL} {st x st':ResL} {b b':Bool} (ho:re.op=7) (hkk:re.kids=kid::l) (h:EvR t 1 (.run (.mk 0 kid 0 0 .nil) i c) [] b x) (he:x=[]) (hn:re.neg=true) (h2:EvR t most (.run nx i c) st b' st'):EvR t most (.body re nx i c) st b' st'
 | aheadYes {most i e:Int} {re kid:Re} {l:List Re} {nx:Goal} {c d:CapsL} {ld:ResL} {st x st':ResL} {b b':Bool} (ho:re.op=7) (hkk:re.kids=kid::l) (h:EvR t 1 (.run (.mk 0 kid 0 0 .nil) i c) [] b x) (he:x=(e,d)::ld) (hn:re.neg=false) (h2:EvR t most (.run nx i d) st b' st'):EvR t most (.body re nx i c) st b' st'
 | aheadYesNeg {most i e:Int} {re kid:Re} {l:List Re} {nx:Goal} {c d:CapsL} {ld:ResL} {st x:ResL} {b:Bool} (ho:re.op=7) (hkk:re.kids=kid::l) (h:EvR t 1 (.run (.mk 0 kid 0 0 .nil) i c) [] b x) (he:x=(e,d)::ld) (hn:re.neg=true):EvR t most (.body re nx i c) st false st
 | behind {most i:Int} {re kid:Re} {l:List Re} {nx:Goal} {c:CapsL} {st st':ResL} {b:Bool} (ho:re.op=8) (hkk:re.kids=kid::l) (h:EvR t most (.behind re kid nx i c (i.toNat + 1)) st b st'):EvR t most (.body re nx i c) st b st'
 | bhNo {most i:Int} {re kid:Re} {nx:Goal} {c:CapsL} {st:ResL} (hn:re.neg=false):EvR t most (.behind re kid nx i c 0) st false st
 | bhNoNeg {most i:Int} {re kid:Re} {nx:Goal} {c:CapsL} {st st':ResL} {b:Bool} (hn:re.neg=true) (h:EvR t most (.run nx i c) st b st'):EvR t most (.behind re kid nx i c 0) st b st'
 | bhYes {most i e:Int} {j:Nat} {re kid:Re} {nx:Goal} {c d:CapsL} {ld:ResL} {st x st':ResL} {b b':Bool} (h:EvR t 1 (.run (.mk 0 kid 0 0 (hereG i)) j c) [] b x) (he:x=(e,d)::ld) (hn:re.neg=false) (h2:EvR t most (.run nx i d) st b' st'):EvR t most (.behind re kid nx i c (j + 1)) st b' st'
 | bhYesNeg {most i e:Int} {j:Nat} {re kid:Re} {nx:Goal} {c d:CapsL} {ld:ResL} {st x:ResL} {b:Bool} (h:EvR t 1 (.run (.mk 0 kid 0 0 (hereG i)) j c) [] b x) (he:x=(e,d)::ld) (hn:re.neg=true):EvR t most (.behind re kid nx i c (j + 1)) st false st
 | bhMore {most i:Int} {j:Nat} {re kid:Re} {nx:Goal} {c:CapsL} {st x st':ResL} {b b':Bool} (h:EvR t 1 (.run (.mk 0 kid 0 0 (hereG i)) j c) [] b x) (he:x=[]) (h2:EvR t most (.behind re kid nx i c j) st b' st'):EvR t most (.behind re kid nx i c (j + 1)) st b' st'
 | atomNo {most i:Int} {re kid:Re} {l:List Re} {nx:Goal} {c:CapsL} {st x:ResL} {b:Bool} (ho:re.op=9) (hkk:re.kids=kid::l) (h:EvR t 1 (.run (.mk 0 kid 0 0 .nil) i c) [] b x) (he:x=[]):EvR t most (.body re nx i c) st false st
 | atomYes {most i e:Int} {re kid:Re} {l:List Re} {nx:Goal} {c d:CapsL} {ld:ResL} {st x st':ResL} {b b':Bool} (ho:re.op=9) (hkk:re.kids=kid::l) (h:EvR t 1 (.run (.mk 0 kid 0 0 .nil) i c) [] b x) (he:x=(e,d)::ld) (h2:EvR t most (.run nx e d) st b' st'):EvR t most (.body re nx i c) st b' st'
 | cond {most i:Int} {re yes no:Re} {l:List Re} {nx:Goal} {c:CapsL} {st st':ResL} {b:Bool} (ho:re.op=10) (hkk:re.kids=yes::no::l) (h:EvR t most (.run (.mk 0 (if 0≤(spanR c re.n).1 then yes else no) 0 0 nx) i c) st b st'):EvR t most (.body re nx i c) st b st'
 | assertYes {most i:Int} {re:Re} {nx:Goal} {c:CapsL} {st st':ResL} {b:Bool} (ho:re.op=11) (hh:holdsR re.n t i=true) (h:EvR t most (.run nx i c) st b st'):EvR t most (.body re nx i c) st b st'
 | assertNo {most i:Int} {re:Re} {nx:Goal} {c:CapsL} {st:ResL} (ho:re.op=11) (hh:holdsR re.n t i=false):EvR t most (.body re nx i c) st false st
def Sst.res (st:Sst):ResL:=st.ends.zip st.caps
theorem res_end {st:Sst} (hl:st.caps.length=st.ends.length) (i:Int) (c:CapsL):({ st with ends:=st.ends++[i],caps:=st.caps++[c] }:Sst).res=st.res++[(i,c)]:=by
 unfold Sst.res
 exact List.zip_append hl.symm
theorem res_nil {x:Sst} (he:x.ends=[]):x.res=[]:=by unfold Sst.res; rw[he]; rfl
theorem res_cons {x:Sst} {e:Int} {le:List Int} {d:CapsL} {ld:List CapsL} (he:x.ends=e::le) (hd:x.caps=d::ld):x.res=(e,d)::le.zip ld:=by unfold Sst.res; rw[he,hd]; rfl
theorem res_len {st:Sst} (hl:st.caps.length=st.ends.length):st.res.length=st.ends.length:=by unfold Sst.res; simp [hl]
theorem EvI.toR {t:List Int} {F most:Int} {task:ETask} {st st':Sst} {b:Bool} (h:EvI t F most task st b st'):st.empty=false→st'.empty=false→EvR t most task st.res b st'.res:=by
 induction h with
 | found h0 h1 hl hl1=>intro hA hB; rw[res_end hl,← res_len hl]; exact .found
 | tree hk1 hk2 hk3 hk4 h0 h1 h ih=>intro hA hB; exact .tree hk1 hk2 hk3 hk4 (ih hA hB)
 | goRep h0 h1 h ih=>intro hA hB; exact .goRep (ih hA hB)
 | stay h0 h1 hk hi=>intro hA hB; exact .stay hk hi
 | iter h0 h1 hk hk0 hk1 h ih=>intro hA hB; exact .iter hk (ih hA hB)
 | save h0 h1 h ih=>intro hA hB; exact .save (ih hA hB)
 | here h0 h1 hi h ih=>intro hA hB; exact .here hi (ih hA hB)
 | gone h0 h1 hi=>intro hA hB; exact .gone hi
 | possOut hm h hx ih=>intro hA hB; simp_all [Sst.aft]
 | possNo hm h hx he ih=>intro hA hB; exact .possNo hm (ih rfl hx) (res_nil he)
 | possYes hm h hx he hd h2 ih ih2=>intro hA hB; exact .possYes hm (ih rfl hx) (res_cons he hd) (ih2 hx hB)
 | repOut hm hs he=>intro hA hB; simp_all [Sst.aft]
 | repMin hm hs he hkk hk h ih=>intro hA hB; exact .repMin hm hkk hk (ih he hB)
 | repMax hm hs he hkk hk hx h ih=>intro hA hB; exact .repMax hm hkk hk hx (ih he hB)
 | lazyT hm hs he hkk hk hx h ih=>intro hA hB; exact .lazyT hm hkk hk hx (ih he hB)
 | lazyF hm hs he hkk hk hx h h2 ih ih2=>intro hA hB; exact .lazyF hm hkk hk hx (ih he (h.full he rfl)) (ih2 (h.full he rfl) hB)
 | moreT hm hm1 hs he hkk hk hx h ih=>intro hA hB; exact .moreT hm hm1 hkk hk hx (ih he hB)
 | moreF hm hm1 hs he hkk hk hx h h2 ih ih2=>intro hA hB; exact .moreF hm hm1 hkk hk hx (ih he (h.full he rfl)) (ih2 (h.full he rfl) hB)
 | nodeRep ho h0 h1 h ih=>intro hA hB; exact .nodeRep ho (ih hA hB)
 | nodeOut ho hs he=>intro hA hB; simp_all [Sst.aft]
 | node ho hs he h ih=>intro hA hB; exact .node ho (ih he hB)
 | empty ho h ih=>intro hA hB; exact .empty ho (ih hA hB)
 | setYes ho hi hs h ih=>intro hA hB; exact .setYes ho hi hs (ih hA hB)
 | setNo ho hn=>intro hA hB; exact .setNo ho hn
 | cat ho h ih=>intro hA hB; exact .cat ho (ih hA hB)
 | alt ho h ih=>intro hA hB; exact .alt ho (ih hA hB)
 | altNil =>intro hA hB; exact .altNil
 | altT h ih=>intro hA hB; exact .altT (ih hA hB)
 | altF h h2 ih ih2=>intro hA hB; exact .altF (ih hA (h.full hA rfl)) (ih2 (h.full hA rfl) hB)
 | cap ho hkk h ih=>intro hA hB; exact .cap ho hkk (ih hA hB)
 | refNone ho hx=>intro hA hB; exact .refNone ho hx
 | refLong ho hx h12 h2 hl=>intro hA hB; exact .refLong ho hx hl
 | refYes ho hx h12 h2 hl hs h ih=>intro hA hB; exact .refYes ho hx h12 hl hs (ih hA hB)
 | refNo ho hx h12 h2 hl hs=>intro hA hB; exact .refNo ho hx hl hs
 | aheadOut ho hkk h hx ih=>intro hA hB; simp_all [Sst.aft]
 | aheadNo ho hkk h hx he hn ih=>intro hA hB; exact .aheadNo ho hkk (ih rfl hx) (res_nil he) hn
 | aheadNoNeg ho hkk h hx he hn h2 ih ih2=>intro hA hB; exact .aheadNoNeg ho hkk (ih rfl hx) (res_nil he) hn (ih2 hx hB)
 | aheadYes ho hkk h hx he hd hn h2 ih ih2=>intro hA hB; exact .aheadYes ho hkk (ih rfl hx) (res_cons he hd) hn (ih2 hx hB)
 | aheadYesNeg ho hkk h hx he hd hn ih=>intro hA hB; exact .aheadYesNeg ho hkk (ih rfl hx) (res_cons he hd) hn
 | behind ho hkk he h ih=>intro hA hB; exact .behind ho hkk (ih hA hB)
 | bhNo hn=>intro hA hB; exact .bhNo hn
 | bhNoNeg hn h ih=>intro hA hB; exact .bhNoNeg hn (ih hA hB)
 | bhOut h hx ih=>intro hA hB; simp_all [Sst.aft]
 | bhYes h hx he hd hn h2 ih ih2=>intro hA hB; exact .bhYes (ih rfl hx) (res_cons he hd) hn (ih2 hx hB)
 | bhYesNeg h hx he hd hn ih=>intro hA hB; exact .bhYesNeg (ih rfl hx) (res_cons he hd) hn
 | bhMore h hx he h2 ih ih2=>intro hA hB; exact .bhMore (ih rfl hx) (res_nil he) (ih2 hx hB)
 | atomOut ho hkk h hx ih=>intro hA hB; simp_all [Sst.aft]
 | atomNo ho hkk h hx he ih=>intro hA hB; exact .atomNo ho hkk (ih rfl hx) (res_nil he)
 | atomYes ho hkk h hx he hd h2 ih ih2=>intro hA hB; exact .atomYes ho hkk (ih rfl hx) (res_cons he hd) (ih2 hx hB)
 | cond ho hkk h ih=>intro hA hB; exact .cond ho hkk (ih hA hB)
 | assertYes ho hh h ih=>intro hA hB; exact .assertYes ho hh (ih hA hB)
 | assertNo ho hh=>intro hA hB; exact .assertNo ho hh
theorem EvR.det {t:List Int} {most:Int} {task:ETask} {st st':ResL} {b:Bool} (h:EvR t most task st b st'):∀{b2:Bool} {st2:ResL},EvR t most task st b2 st2→b=b2∧st'=st2:=by
 induction h with
 | found  =>
  intro b2 st2 h'
  cases h' with
  | found =>exact⟨rfl,rfl⟩
  | _=>exfalso; first | omega | (simp_all; done)
 | tree hk1 hk2 hk3 hk4 h ih =>
  intro b2 st2 h'
  cases h' with
  | tree hk1_2 hk2_2 hk3_2 hk4_2 h_2=>exact ih h_2
  | _=>exfalso; first | omega | (simp_all; done)
 | goRep h ih =>
  intro b2 st2 h'
  cases h' with
  | goRep h_2=>exact ih h_2
  | _=>exfalso; first | omega | (simp_all; done)
 | stay hk hi =>
  intro b2 st2 h'
  cases h' with
  | stay hk_2 hi_2=>exact⟨rfl,rfl⟩
  | _=>exfalso; first | omega | (simp_all; done)
 | iter hk h ih =>
  intro b2 st2 h'
  cases h' with
  | iter hk_2 h_2=>exact ih h_2
  | _=>exfalso; first | omega | (simp_all; done)
 | save h ih =>
  intro b2 st2 h'
  cases h' with
  | save h_2=>exact ih h_2
  | _=>exfalso; first | omega | (simp_all; done)
 | here hi h ih =>
  intro b2 st2 h'
  cases h' with
  | here hi_2 h_2=>exact ih h_2
  | _=>exfalso; first | omega | (simp_all; done)
 | gone hi =>
  intro b2 st2 h'
  cases h' with
  | gone hi_2=>exact⟨rfl,rfl⟩
  | _=>exfalso; first | omega | (simp_all; done)
 | possNo hm h he ih =>
  intro b2 st2 h'
  cases h' with
  | possNo hm_2 h_2 he_2=>obtain⟨_,rfl⟩:=ih h_2; exact⟨rfl,rfl⟩
  | possYes hm_2 h_2 he_2 h2_2=>obtain⟨_,rfl⟩:=ih h_2; simp_all
  | _=>exfalso; first | omega | (simp_all; done)
 | possYes hm h he h2 ih ih2 =>
  intro b2 st2 h'
  cases h' with
  | possYes hm_2 h_2 he_2 h2_2=>obtain⟨_,rfl⟩:=ih h_2; rw[he] at he_2; cases he_2; exact ih2 h2_2
  | possNo hm_2 h_2 he_2=>obtain⟨_,rfl⟩:=ih h_2; simp_all
  | _=>exfalso; first | omega | (simp_all; done)
 | repMin hm hkk hk h ih =>
  intro b2 st2 h'
  cases h' with
  | repMin hm_2 hkk_2 hk_2 h_2=>cases hkk.symm.trans hkk_2; exact ih h_2
  | _=>exfalso; first | omega | (simp_all; done)
 | repMax hm hkk hk hx h ih =>
  intro b2 st2 h'
  cases h' with
  | repMax hm_2 hkk_2 hk_2 hx_2 h_2=>cases hkk.symm.trans hkk_2; exact ih h_2
  | _=>exfalso; first | omega | (simp_all; done)
 | lazyT hm hkk hk hx h ih =>
  intro b2 st2 h'
  cases h' with
  | lazyT hm_2 hkk_2 hk_2 hx_2 h_2=>cases hkk.symm.trans hkk_2; exact ih h_2
  | lazyF hm_2 hkk_2 hk_2 hx_2 h_2 h2_2=>cases hkk.symm.trans hkk_2; cases (ih h_2).1
  | _=>exfalso; first | omega | (simp_all; done)
 | lazyF hm hkk hk hx h h2 ih ih2 =>
  intro b2 st2 h'
  cases h' with
  | lazyF hm_2 hkk_2 hk_2 hx_2 h_2 h2_2=>cases hkk.symm.trans hkk_2; obtain⟨_,rfl⟩:=ih h_2; exact ih2 h2_2
  | lazyT hm_2 hkk_2 hk_2 hx_2 h_2=>cases hkk.symm.trans hkk_2; cases (ih h_2).1
  | _=>exfalso; first | omega | (simp_all; done)
 | moreT hm hm1 hkk hk hx h ih =>
  intro b2 st2 h'
  cases h' with
  | moreT hm_2 hm1_2 hkk_2 hk_2 hx_2 h_2=>cases hkk.symm.trans hkk_2; exact ih h_2
  | moreF hm_2 hm1_2 hkk_2 hk_2 hx_2 h_2 h2_2=>cases hkk.symm.trans hkk_2; cases (ih h_2).1
  | _=>exfalso; first | omega | (simp_all; done)
 | moreF hm hm1 hkk hk hx h h2 ih ih2 =>
  intro b2 st2 h'
  cases h' with
  | moreF hm_2 hm1_2 hkk_2 hk_2 hx_2 h_2 h2_2=>cases hkk.symm.trans hkk_2; obtain⟨_,rfl⟩:=ih h_2; exact ih2 h2_2
  | moreT hm_2 hm1_2 hkk_2 hk_2 hx_2 h_2=>cases hkk.symm.trans hkk_2; cases (ih h_2).1
  | _=>exfalso; first | omega | (simp_all; done)
 | nodeRep ho h ih =>
  intro b2 st2 h'
  cases h' with
  | nodeRep ho_2 h_2=>exact ih h_2
  | _=>exfalso; first | omega | (simp_all; done)
 | node ho h ih =>
  intro b2 st2 h'
  cases h' with
  | node ho_2 h_2=>exact ih h_2
  | _=>exfalso; first | omega | (simp_all; done)
 | empty ho h ih =>
  intro b2 st2 h'
  cases h' with
  | empty ho_2 h_2=>exact ih h_2
  | _=>exfalso; first | omega | (simp_all; done)
 | setYes ho hi hs h ih =>
  intro b2 st2 h'
  cases h' with
  | setYes ho_2 hi_2 hs_2 h_2=>exact ih h_2
  | _=>exfalso; first | omega | (simp_all; done)
 | setNo ho hn =>
  intro b2 st2 h'
  cases h' with
  | setNo ho_2 hn_2=>exact⟨rfl,rfl⟩
  | _=>exfalso; first | omega | (simp_all; done)
 | cat ho h ih =>
  intro b2 st2 h'
  cases h' with
  | cat ho_2 h_2=>exact ih h_2
  | _=>exfalso; first | omega | (simp_all; done)
 | alt ho h ih =>
  intro b2 st2 h'
  cases h' with
  | alt ho_2 h_2=>exact ih h_2
  | _=>exfalso; first | omega | (simp_all; done)
 | altNil  =>
  intro b2 st2 h'
  cases h' with
  | altNil =>exact⟨rfl,rfl⟩
  | _=>exfalso; first | omega | (simp_all; done)
 | altT h ih =>
  intro b2 st2 h'
  cases h' with
  | altT h_2=>exact ih h_2
  | altF h_2 h2_2=>cases (ih h_2).1
  | _=>exfalso; first | omega | (simp_all; done)
 | altF h h2 ih ih2 =>
  intro b2 st2 h'
  cases h' with
  | altF h_2 h2_2=>obtain⟨_,rfl⟩:=ih h_2; exact ih2 h2_2
  | altT h_2=>cases (ih h_2).1
  | _=>exfalso; first | omega | (simp_all; done)
 | cap ho hkk h ih =>
  intro b2 st2 h'
  cases h' with
  | cap ho_2 hkk_2 h_2=>cases hkk.symm.trans hkk_2; exact ih h_2
  | _=>exfalso; first | omega | (simp_all; done)
 | refNone ho hx =>
  intro b2 st2 h'
  cases h' with
  | refNone ho_2 hx_2=>exact⟨rfl,rfl⟩
  | _=>exfalso; first | omega | (simp_all; done)
 | refLong ho hx hl =>
  intro b2 st2 h'
  cases h' with
  | refLong ho_2 hx_2 hl_2=>exact⟨rfl,rfl⟩
  | _=>exfalso; first | omega | (simp_all; done)
 | refYes ho hx h12 hl hs h ih =>
  intro b2 st2 h'
  cases h' with
  | refYes ho_2 hx_2 h12_2 hl_2 hs_2 h_2=>exact ih h_2
  | _=>exfalso; first | omega | (simp_all; done)
 | refNo ho hx hl hs =>
  intro b2 st2 h'
  cases h' with
  | refNo ho_2 hx_2 hl_2 hs_2=>exact⟨rfl,rfl⟩
  | _=>exfalso; first | omega | (simp_all; done)
 | aheadNo ho hkk h he hn ih =>
  intro b2 st2 h'
  cases h' with
  | aheadNo ho_2 hkk_2 h_2 he_2 hn_2=>cases hkk.symm.trans hkk_2; obtain⟨_,rfl⟩:=ih h_2; exact⟨rfl,rfl⟩
  | aheadNoNeg ho_2 hkk_2 h_2 he_2 hn_2 h2_2=>cases hkk.symm.trans hkk_2; obtain⟨_,rfl⟩:=ih h_2; simp_all
  | aheadYes ho_2 hkk_2 h_2 he_2 hn_2 h2_2=>cases hkk.symm.trans hkk_2; obtain⟨_,rfl⟩:=ih h_2; simp_all
  | aheadYesNeg ho_2 hkk_2 h_2 he_2 hn_2=>cases hkk.symm.trans hkk_2; obtain⟨_,rfl⟩:=ih h_2; simp_all
  | _=>exfalso; first | omega | (simp_all; done)
 | aheadNoNeg ho hkk h he hn h2 ih ih2 =>
  intro b2 st2 h'
  cases h' with
  | aheadNoNeg ho_2 hkk_2 h_2 he_2 hn_2 h2_2=>cases hkk.symm.trans hkk_2; obtain⟨_,rfl⟩:=ih h_2; rw[he] at he_2; cases he_2; exact ih2 h2_2
  | aheadNo ho_2 hkk_2 h_2 he_2 hn_2=>cases hkk.symm.trans hkk_2; obtain⟨_,rfl⟩:=ih h_2; simp_all
  | aheadYes ho_2 hkk_2 h_2 he_2 hn_2 h2_2=>cases hkk.symm.trans hkk_2; obtain⟨_,rfl⟩:=ih h_2; simp_all
  | aheadYesNeg ho_2 hkk_2 h_2 he_2 hn_2=>cases hkk.symm.trans hkk_2; obtain⟨_,rfl⟩:=ih h_2; simp_all
  | _=>exfalso; first | omega | (simp_all; done)
 | aheadYes ho hkk h he hn h2 ih ih2 =>
  intro b2 st2 h'
  cases h' with
  | aheadYes ho_2 hkk_2 h_2 he_2 hn_2 h2_2=>cases hkk.symm.trans hkk_2; obtain⟨_,rfl⟩:=ih h_2; rw[he] at he_2; cases he_2; exact ih2 h2_2
  | aheadNo ho_2 hkk_2 h_2 he_2 hn_2=>cases hkk.symm.trans hkk_2; obtain⟨_,rfl⟩:=ih h_2; simp_all
  | aheadNoNeg ho_2 hkk_2 h_2 he_2 hn_2 h2_2=>cases hkk.symm.trans hkk_2; obtain⟨_,rfl⟩:=ih h_2; simp_all
  | aheadYesNeg ho_2 hkk_2 h_2 he_2 hn_2=>cases hkk.symm.trans hkk_2; obtain⟨_,rfl⟩:=ih h_2; simp_all
  | _=>exfalso; first | omega | (simp_all; done)
 | aheadYesNeg ho hkk h he hn ih =>
  intro b2 st2 h'
  cases h' with
  | aheadYesNeg ho_2 hkk_2 h_2 he_2 hn_2=>cases hkk.symm.trans hkk_2; obtain⟨_,rfl⟩:=ih h_2; exact⟨rfl,rfl⟩
  | aheadNo ho_2 hkk_2 h_2 he_2 hn_2=>cases hkk.symm.trans hkk_2; obtain⟨_,rfl⟩:=ih h_2; simp_all
  | aheadNoNeg ho_2 hkk_2 h_2 he_2 hn_2 h2_2=>cases hkk.symm.trans hkk_2; obtain⟨_,rfl⟩:=ih h_2; simp_all
  | aheadYes ho_2 hkk_2 h_2 he_2 hn_2 h2_2=>cases hkk.symm.trans hkk_2; obtain⟨_,rfl⟩:=ih h_2; simp_all
  | _=>exfalso; first | omega | (simp_all; done)
 | behind ho hkk h ih =>
  intro b2 st2 h'
  cases h' with
  | behind ho_2 hkk_2 h_2=>cases hkk.symm.trans hkk_2; exact ih h_2
  | _=>exfalso; first | omega | (simp_all; done)
 | bhNo hn =>
  intro b2 st2 h'
  cases h' with
  | bhNo hn_2=>exact⟨rfl,rfl⟩
  | _=>exfalso; first | omega | (simp_all; done)
 | bhNoNeg hn h ih =>
  intro b2 st2 h'
  cases h' with
  | bhNoNeg hn_2 h_2=>exact ih h_2
  | _=>exfalso; first | omega | (simp_all; done)
 | bhYes h he hn h2 ih ih2 =>
  intro b2 st2 h'
  cases h' with
  | bhYes h_2 he_2 hn_2 h2_2=>obtain⟨_,rfl⟩:=ih h_2; rw[he] at he_2; cases he_2; exact ih2 h2_2
  | bhYesNeg h_2 he_2 hn_2=>obtain⟨_,rfl⟩:=ih h_2; simp_all
  | bhMore h_2 he_2 h2_2=>obtain⟨_,rfl⟩:=ih h_2; simp_all
  | _=>exfalso; first | omega | (simp_all; done)
 | bhYesNeg h he hn ih =>
  intro b2 st2 h'
  cases h' with
  | bhYesNeg h_2 he_2 hn_2=>obtain⟨_,rfl⟩:=ih h_2; exact⟨rfl,rfl⟩
  | bhYes h_2 he_2 hn_2 h2_2=>obtain⟨_,rfl⟩:=ih h_2; simp_all
  | bhMore h_2 he_2 h2_2=>obtain⟨_,rfl⟩:=ih h_2; simp_all
  | _=>exfalso; first | omega | (simp_all; done)
 | bhMore h he h2 ih ih2 =>
  intro b2 st2 h'
  cases h' with
  | bhMore h_2 he_2 h2_2=>obtain⟨_,rfl⟩:=ih h_2; rw[he] at he_2; cases he_2; exact ih2 h2_2
  | bhYes h_2 he_2 hn_2 h2_2=>obtain⟨_,rfl⟩:=ih h_2; simp_all
  | bhYesNeg h_2 he_2 hn_2=>obtain⟨_,rfl⟩:=ih h_2; simp_all
  | _=>exfalso; first | omega | (simp_all; done)
 | atomNo ho hkk h he ih =>
  intro b2 st2 h'
  cases h' with
  | atomNo ho_2 hkk_2 h_2 he_2=>cases hkk.symm.trans hkk_2; obtain⟨_,rfl⟩:=ih h_2; exact⟨rfl,rfl⟩
  | atomYes ho_2 hkk_2 h_2 he_2 h2_2=>cases hkk.symm.trans hkk_2; obtain⟨_,rfl⟩:=ih h_2; simp_all
  | _=>exfalso; first | omega | (simp_all; done)
 | atomYes ho hkk h he h2 ih ih2 =>
  intro b2 st2 h'
  cases h' with
  | atomYes ho_2 hkk_2 h_2 he_2 h2_2=>cases hkk.symm.trans hkk_2; obtain⟨_,rfl⟩:=ih h_2; rw[he] at he_2; cases he_2; exact ih2 h2_2
  | atomNo ho_2 hkk_2 h_2 he_2=>cases hkk.symm.trans hkk_2; obtain⟨_,rfl⟩:=ih h_2; simp_all
  | _=>exfalso; first | omega | (simp_all; done)
 | cond ho hkk h ih =>
  intro b2 st2 h'
  cases h' with
  | cond ho_2 hkk_2 h_2=>cases hkk.symm.trans hkk_2; exact ih h_2
  | _=>exfalso; first | omega | (simp_all; done)
 | assertYes ho hh h ih =>
  intro b2 st2 h'
  cases h' with
  | assertYes ho_2 hh_2 h_2=>exact ih h_2
  | _=>exfalso; first | omega | (simp_all; done)
 | assertNo ho hh =>
  intro b2 st2 h'
  cases h' with
  | assertNo ho_2 hh_2=>exact⟨rfl,rfl⟩
  | _=>exfalso; first | omega | (simp_all; done)
def okx (re:Re):Bool:=decide (0≤re.op∧re.op≤11∧(re.op=4→re.mode≠2∧re.kids.length=1∧0≤re.mn∧(re.mx=-1∨re.mn≤re.mx)∧(re.kept=true∨(re.kids.all fun k=>!k.anul)=true)))
theorem okx_iff {re:Re}:okx re=true ↔ (0≤re.op∧re.op≤11∧(re.op=4→re.mode≠2∧re.kids.length=1∧0≤re.mn∧(re.mx=-1∨re.mn≤re.mx)∧(re.kept=true∨(re.kids.all fun k=>!k.anul)=true))):=decide_eq_true_iff
def nn (re:Re):Int:=if re.anul=true then 0 else 1
theorem nn_range (re:Re):0≤nn re∧nn re≤1:=by unfold nn; split <;> omega
theorem nn_zero {re:Re} (h:re.op=0∨re.op=6∨re.op=7∨re.op=8∨re.op=11):nn re=0:=by
 unfold nn; rw[Re.anul_eq,anulOp,if_pos h,if_pos rfl]
theorem nn_any {re kid:Re} (h:re.op=3∨re.op=10∨re.op=5∨re.op=9) (hk:kid∈re.kids):nn re≤nn kid:=by
 unfold nn
 split
 ·split <;> omega
 ·rename_i hn
  rw[if_neg]
  ·omega
  ·intro ha
   apply hn
   rw[Re.anul_eq,anulOp,if_neg (by omega),if_neg (by omega),if_neg (by omega),if_pos h]
   exact List.any_eq_true.2 ⟨true,List.mem_map.2 ⟨kid,hk,ha⟩,rfl⟩
theorem nn_rep {re kid:Re} (h:re.op=4) (h0:0≤re.mn) (hk:kid∈re.kids):nn re≤if 0 < re.mn then nn kid else 0:=by
 have hr:=nn_range kid
 have e:re.anul=if re.mn=0 then true else (re.kids.map Re.anul).any id:=by rw[Re.anul_eq,anulOp,if_neg (by omega),if_neg (by omega),if_pos h]
 unfold nn at hr ⊢
 rw[e]
 by_cases hm:re.mn=0
 ·rw[if_pos hm,if_pos rfl,if_neg (by omega)]; omega
 ·rw[if_neg hm,if_pos (show 0 < re.mn by omega)]
  cases ha:kid.anul with
  | true =>
   have:(re.kids.map Re.anul).any id=true:=List.any_eq_true.2 ⟨true,List.mem_map.2 ⟨kid,hk,ha⟩,rfl⟩
   rw[if_pos this,if_pos rfl]; omega
  | false=>rw[if_neg Bool.false_ne_true]; split <;> omega
def sumN (l:List Re):Int:=if l.all Re.anul=true then 0 else 1
theorem nn_cat {re:Re} (h:re.op=2):nn re=sumN re.kids:=by
 have e:re.anul=re.kids.all Re.anul:=by rw[Re.anul_eq,anulOp,if_neg (by omega),if_pos h,List.all_map]; rfl
 unfold nn sumN
 rw[e]
def mustG:Goal→Int
 | .nil=>0
 | .mk kind re _ _ nx=>(if kind=0 then nn re else 0) + mustG nx
theorem mustG_push (nx:Goal):∀l:List Re,mustG nx + sumN l≤mustG (pushAll l nx)∧mustG nx≤mustG (pushAll l nx)
 | []=>by simp [pushAll,sumN]
 | k::l=>by
  have h:=mustG_push nx l
  have e:mustG (pushAll (k::l) nx)=nn k + mustG (pushAll l nx):=by
   show mustG (.mk 0 k 0 0 (pushAll l nx))=_
   rw[mustG,if_pos rfl]
  rw[e]
  have hk:=nn_range k
  unfold sumN at h ⊢
  rw[List.all_cons]
  unfold nn at hk ⊢
  cases ha:k.anul <;> cases hl:l.all Re.anul <;> simp_all <;> omega
def leastN:List Re→Int
 | []=>1
 | k::l=>min (nn k) (leastN l)
theorem leastN_of {n:Int} (hn:n≤1):∀l:List Re,(∀k∈l,n≤nn k)→n≤leastN l
 | [],_=>hn
 | k::l,h=>by
  have h1:=h k (by simp)
  have h2:=leastN_of hn l (fun k hk=>h k (by simp [hk]))
  unfold leastN
  omega
def okG:Goal→Prop
 | .nil=>True
 | .mk kind re _ _ nx=>re.every okx=true∧(kind=1∨kind=2→re.op=4)∧okG nx
def okT:ETask→Prop
 | .run gl _ _=>okG gl
 | .node re nx _ _=>re.every okx=true∧okG nx
 | .body re nx _ _=>re.op≠4∧re.every okx=true∧okG nx
 | .rep re _ nx _ _=>re.op=4∧re.every okx=true∧okG nx
 | .alt l nx _ _=>(∀k∈l,k.every okx=true)∧okG nx
 | .behind _ kid nx _ _ _=>kid.every okx=true∧okG nx
theorem okG_push {nx:Goal} (h:okG nx):∀{l:List Re},(∀k∈l,k.every okx=true)→okG (pushAll l nx)
 | [],_=>h
 | k::l,hl=>⟨hl k (by simp),fun e=>by omega,okG_push h (fun x hx=>hl x (by simp [hx]))⟩
theorem okx_kids {re:Re} (h:re.every okx=true):∀k∈re.kids,k.every okx=true:=((Re.every_iff re).1 h).2
theorem okx_node {re:Re} (h:re.every okx=true):okx re=true:=((Re.every_iff re).1 h).1
theorem ok_zero:(Re.mk 0 [] [] 0 0 0 0 false).every okx=true:=by decide
def lowT:ETask→Int
 | .run gl i _=>i + mustG gl
 | .node re nx i _=>i + nn re + mustG nx
 | .body re nx i _=>i + nn re + mustG nx
 | .rep re k nx i _=>i + (if k < re.mn then leastN re.kids else 0) + mustG nx
 | .alt l nx i _=>i + leastN l + mustG nx
 | .behind _ _ nx i _ _=>i + mustG nx
def Newer (n:Int) (st st':ResL):Prop:=∃new,st'=st++new∧∀r∈new,n≤r.1
theorem Newer.refl (n:Int) (st:ResL):Newer n st st:=⟨[],by simp,fun r h=>by cases h⟩
theorem Newer.mono {n m:Int} {st st':ResL} (h:Newer n st st') (hm:m≤n):Newer m st st':=by
 obtain⟨new,h1,h2⟩:=h
 exact⟨new,h1,fun r hr=>Int.le_trans hm (h2 r hr)⟩
theorem Newer.trans {n:Int} {a b c:ResL} (h:Newer n a b) (k:Newer n b c):Newer n a c:=by
 obtain⟨n1,h1,h2⟩:=h
 obtain⟨n2,k1,k2⟩:=k
 exact⟨n1++n2,by rw[k1,h1,List.append_assoc],fun r hr=>(List.mem_append.1 hr).elim (h2 r) (k2 r)⟩
theorem Newer.first {n e:Int} {d:CapsL} {x ld:ResL} (h:Newer n [] x) (he:x=(e,d)::ld):n≤e:=by
 obtain⟨new,h1,h2⟩:=h
 rw[he,List.nil_append] at h1
 exact h2 (e,d) (by rw[← h1]; simp)
theorem must0 (re:Re) (k f:Int) (nx:Goal):mustG (.mk 0 re k f nx)=nn re + mustG nx:=by rw[mustG,if_pos rfl]
theorem must1 {kind:Int} (h:kind≠0) (re:Re) (k f:Int) (nx:Goal):mustG (.mk kind re k f nx)=mustG nx:=by rw[mustG,if_neg h,Int.zero_add]
theorem least_one {re kid:Re} {l:List Re} (hk:re.kids=kid::l) (h1:re.kids.length=1):leastN re.kids=nn kid:=by
 rw[hk] at h1 ⊢
 have hl:l=[]:=List.eq_nil_of_length_eq_zero (by rw[List.length_cons] at h1; omega)
 subst hl
 have:=nn_range kid
 simp only[leastN]
 omega
theorem leastN_nonneg:∀l:List Re,0≤leastN l
 | []=>by decide
 | k::l=>by have:=leastN_nonneg l; have:=nn_range k; unfold leastN; omega
theorem EvR.prog {t:List Int} {most:Int} {task:ETask} {st st':ResL} {b:Bool} (h:EvR t most task st b st'):okT task→Newer (lowT task) st st':=by
 induction h with
 | @found most i c st=>intro _; exact⟨[(i,c)],rfl,fun r hr=>by rw[List.mem_singleton.1 hr]; simp [lowT,mustG]⟩
 | @tree most kind k f i re nx c st st' b hk1 hk2 hk3 hk4 h ih =>
  intro ho
  refine(ih ⟨ho.1,ho.2.2⟩).mono ?_
  have:=nn_range re
  simp only[lowT,mustG]
  split <;> omega
 | @goRep most k f i re nx c st st' b h ih =>
  intro ho
  refine(ih ⟨ho.2.1 (.inl rfl),ho.1,ho.2.2⟩).mono ?_
  have:=leastN_nonneg re.kids
  simp only[lowT,must1 (kind:=1) (by decide)]
  split <;> omega
 | stay=>intro _; exact .refl _ _
 | @iter most k f i re nx c st st' b hk h ih =>
  intro ho
  refine(ih ⟨ho.1,fun _=>ho.2.1 (.inr rfl),ho.2.2⟩).mono ?_
  simp only[lowT,must1 (kind:=1) (by decide),must1 (kind:=2) (by decide)]; omega
 | @save most k f i re nx c st st' b h ih =>
  intro ho
  refine(ih ho.2.2).mono ?_
  simp only[lowT,must1 (kind:=3) (by decide)]; omega
 | @here most k f i re nx c st st' b hi h ih =>
  intro ho
  refine(ih ho.2.2).mono ?_
  simp only[lowT,must1 (kind:=4) (by decide)]; omega
 | gone=>intro _; exact .refl _ _
 | possNo=>intro _; exact .refl _ _
 | possYes hm=>intro ho; exact absurd hm ((okx_iff.1 (okx_node ho.2.1)).2.2 ho.1).1
 | @repMin most k i re kid l nx c st st' b hm hkk hk h ih =>
  intro ho
  have hx:=(okx_iff.1 (okx_node ho.2.1)).2.2 ho.1
  refine(ih ⟨okx_kids ho.2.1 kid (by rw[hkk]; simp),fun e=>by omega,ho.2.1,fun _=>ho.1,ho.2.2⟩).mono ?_
  simp only[lowT,must0,must1 (kind:=2) (by decide),if_pos hk,least_one hkk hx.2.1]; omega
 | @repMax most k i re kid l nx c st st' b hm hkk hk hx h ih =>
  intro ho
  refine(ih ho.2.2).mono ?_
  simp only[lowT,if_neg hk]; omega
 | @lazyT most k i re kid l nx c st st' hm hkk hk hx h ih =>
  intro ho
  refine(ih ho.2.2).mono ?_
  simp only[lowT,if_neg hk]; omega
 | @lazyF most k i re kid l nx c st s2 st' b hm hkk hk hx h h2 ih ih2 =>
  intro ho
  have hr:=nn_range kid
  refine((ih ho.2.2).mono ?_).trans ((ih2 ⟨okx_kids ho.2.1 kid (by rw[hkk]; simp),fun e=>by omega,ho.2.1,fun _=>ho.1,ho.2.2⟩).mono ?_)
  ·simp only[lowT,if_neg hk]; omega
  ·simp only[lowT,must0,must1 (kind:=2) (by decide),if_neg hk]; omega
 | @moreT most k i re kid l nx c st st' hm hm1 hkk hk hx h ih =>
  intro ho
  have hr:=nn_range kid
  refine(ih ⟨okx_kids ho.2.1 kid (by rw[hkk]; simp),fun e=>by omega,ho.2.1,fun _=>ho.1,ho.2.2⟩).mono ?_
  simp only[lowT,must0,must1 (kind:=2) (by decide),if_neg hk]; omega
 | @moreF most k i re kid l nx c st s2 st' b hm hm1 hkk hk hx h h2 ih ih2 =>
  intro ho
  have hr:=nn_range kid
  refine((ih ⟨okx_kids ho.2.1 kid (by rw[hkk]; simp),fun e=>by omega,ho.2.1,fun _=>ho.1,ho.2.2⟩).mono ?_).trans ((ih2 ho.2.2).mono ?_)
  ·simp only[lowT,must0,must1 (kind:=2) (by decide),if_neg hk]; omega
  ·simp only[lowT,if_neg hk]; omega
 | @nodeRep most i re nx c st st' b ho4 h ih =>
  intro ho
  have hx:=(okx_iff.1 (okx_node ho.1)).2.2 ho4
  refine(ih ⟨ho4,ho.1,ho.2⟩).mono ?_
  obtain⟨kid,l,hkk⟩:∃kid l,re.kids=kid::l:=List.exists_cons_of_length_pos (by omega)
  have h1:=nn_rep ho4 hx.2.2.1 (kid:=kid) (by rw[hkk]; simp)
  simp only[lowT,least_one hkk hx.2.1]; omega
 | node ho4 h ih=>intro ho; exact ih ⟨ho4,ho.1,ho.2⟩
 | @empty most i re nx c st st' b hop h ih =>
  intro ho
  have hx:=okx_iff.1 (okx_node ho.2.1)
  have h4:=ho.1
  simp only[List.mem_cons,List.not_mem_nil,or_false,not_or] at hop
  have hz:=nn_zero (re:=re) (by omega)
  refine(ih ho.2.2).mono ?_
  simp only[lowT,hz]; omega
 | @setYes most i re nx c st st' b hop hi hs h ih =>
  intro ho
  have:=nn_range re
  refine(ih ho.2.2).mono ?_
  simp only[lowT]; omega
 | setNo=>intro _; exact .refl _ _
 | @cat most i re nx c st st' b hop h ih =>
  intro ho
  refine(ih (okG_push ho.2.2 (okx_kids ho.2.1))).mono ?_
  have:=(mustG_push nx re.kids).1
  simp only[lowT,nn_cat hop]; omega
 | @alt most i re nx c st st' b hop h ih =>
  intro ho
  refine(ih ⟨okx_kids ho.2.1,ho.2.2⟩).mono ?_
  have:=leastN_of (nn_range re).2 re.kids (fun k hk=>nn_any (.inl hop) hk)
  simp only[lowT]; omega
 | altNil=>intro _; exact .refl _ _
 | @altT most i kid l nx c st st' h ih =>
  intro ho
  refine(ih ⟨ho.1 kid (by simp),fun e=>by omega,ho.2⟩).mono ?_
  simp only[lowT,must0,leastN]; omega
 | @altF most i kid l nx c st s2 st' b h h2 ih ih2 =>
  intro ho
  refine((ih ⟨ho.1 kid (by simp),fun e=>by omega,ho.2⟩).mono ?_).trans ((ih2 ⟨fun k hk=>ho.1 k (by simp [hk]),ho.2⟩).mono ?_)
  ·simp only[lowT,must0,leastN]; omega
  ·simp only[lowT,leastN]; omega
 | @cap most i re kid l nx c st st' b hop hkk h ih =>
  intro ho
  have hmem:kid∈re.kids:=by rw[hkk]; simp
  refine(ih ⟨okx_kids ho.2.1 kid hmem,fun e=>by omega,ho.2.1,fun e=>by omega,ho.2.2⟩).mono ?_
  have:=nn_any (.inr (.inr (.inl hop))) hmem
  simp only[lowT,must0,must1 (kind:=3) (by decide)]; omega
 | refNone=>intro _; exact .refl _ _
 | refLong=>intro _; exact .refl _ _
 | @refYes most i re nx c st st' b hop hx h12 hl hs h ih =>
  intro ho
  refine(ih ho.2.2).mono ?_
  simp only[lowT,nn_zero (re:=re) (by omega)]; omega
 | refNo=>intro _; exact .refl _ _
 | aheadNo=>intro _; exact .refl _ _
 | @aheadNoNeg most i re kid l nx c st x st' b b' hop hkk h he hn h2 ih ih2 =>
  intro ho
  refine(ih2 ho.2.2).mono ?_
  simp only[lowT,nn_zero (re:=re) (by omega)]; omega
 | @aheadYes most i e re kid l nx c d ld st x st' b b' hop hkk h he hn h2 ih ih2 =>
  intro ho
  refine(ih2 ho.2.2).mono ?_
  simp only[lowT,nn_zero (re:=re) (by omega)]; omega
 | aheadYesNeg=>intro _; exact .refl _ _
 | @behind most i re kid l nx c st st' b hop hkk h ih =>
  intro ho
  refine(ih ⟨okx_kids ho.2.1 kid (by rw[hkk]; simp),ho.2.2⟩).mono ?_
  simp only[lowT,nn_zero (re:=re) (by omega)]; omega
 | bhNo=>intro _; exact .refl _ _
 | bhNoNeg hn h ih=>intro ho; exact ih ho.2
 | bhYes h he hn h2 ih ih2=>intro ho; exact ih2 ho.2
 | bhYesNeg=>intro _; exact .refl _ _
 | bhMore h he h2 ih ih2=>intro ho; exact ih2 ho
 | atomNo=>intro _; exact .refl _ _
 | @atomYes most i e re kid l nx c d ld st x st' b b' hop hkk h he h2 ih ih2 =>
  intro ho
  have hmem:kid∈re.kids:=by rw[hkk]; simp
  have h1:=(ih ⟨okx_kids ho.2.1 kid hmem,fun e=>by omega,trivial⟩).first he
  have h3:=nn_any (.inr (.inr (.inr hop))) hmem
  refine(ih2 ho.2.2).mono ?_
  have hz:mustG .nil=0:=rfl
  simp only[lowT,must0] at h1 ⊢; omega
 | @cond most i re yes no l nx c st st' b hop hkk h ih =>
  intro ho
  have hy:yes∈re.kids:=by rw[hkk]; simp
  have hn:no∈re.kids:=by rw[hkk]; simp
  have h1:=nn_any (.inr (.inl hop)) hy
  have h2:=nn_any (.inr (.inl hop)) hn
  refine(ih ⟨?_,fun e=>by omega,ho.2.2⟩).mono ?_
  ·split
   ·exact okx_kids ho.2.1 yes hy
   ·exact okx_kids ho.2.1 no hn
  ·simp only[lowT,must0]
   split <;> omega
 | @assertYes most i re nx c st st' b hop hh h ih =>
  intro ho
  refine(ih ho.2.2).mono ?_
  simp only[lowT,nn_zero (re:=re) (by omega)]; omega
 | assertNo=>intro _; exact .refl _ _
end Go.Proofs.Ytimnnipoaafdfaa
