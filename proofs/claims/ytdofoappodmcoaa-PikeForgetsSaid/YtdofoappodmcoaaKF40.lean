/- A part of the proof (E1 E2). -/
import Derived.Test.YtdofoappodmcoaaKF14
import Derived.Test.YtdofoappodmcoaaKF20
set_option linter.unusedSimpArgs false
set_option linter.unusedVariables false
set_option maxRecDepth 100000
set_option maxHeartbeats 80000000
namespace Go.Proofs.Ytdofoappodmcoaa
open Go.VL Go.Proofs.Try
inductive ETask where
 | run (g : Goal) (i : Int) (c : CapsL)
 | rep (re : Re) (k : Int) (nx : Goal) (i : Int) (c : CapsL)
 | node (re : Re) (nx : Goal) (i : Int) (c : CapsL)
 | body (re : Re) (nx : Goal) (i : Int) (c : CapsL)
 | alt (l : List Re) (nx : Goal) (i : Int) (c : CapsL)
 | behind (re kid : Re) (nx : Goal) (i : Int) (c : CapsL) (j : Nat)
def Sst.sub (st : Sst) : Sst := ⟨st.steps,false,[],[]⟩
def Sst.aft (st x : Sst) : Sst := { st with steps := x.steps,empty := x.empty }
def hereG (i : Int) : Goal := .mk 4 (.mk 0 [] [] 0 0 0 0 false) 0 i .nil
inductive EvI (t : List Int) (F : Int) : Int→ETask→Sst→Bool→Sst→Prop where
 | found {most : Int} {i : Int} {c : CapsL} {st : Sst} (h0 : 0≤i) (h1 : i≤t.length) (hl : st.caps.length=st.ends.length) (hl1 : st.ends.length < 2000000000000) : EvI t F most (.run .nil i c) st (decide (0≤most) && decide (most≤(st.ends.length : Int) + 1)) { st with ends := st.ends ++ [i],caps := st.caps ++ [c] }
 | tree {most kind k f i : Int} {re : Re} {nx : Goal} {c : CapsL} {st st' : Sst} {b : Bool} (hk1 : kind ≠ 1) (hk2 : kind ≠ 2) (hk3 : kind ≠ 3) (hk4 : kind ≠ 4) (h0 : 0≤i) (h1 : i≤t.length) (h : EvI t F most (.node re nx i c) st b st') : EvI t F most (.run (.mk kind re k f nx) i c) st b st'
 | goRep {most k f i : Int} {re : Re} {nx : Goal} {c : CapsL} {st st' : Sst} {b : Bool} (h0 : 0≤i) (h1 : i≤t.length) (h : EvI t F most (.rep re k nx i c) st b st') : EvI t F most (.run (.mk 1 re k f nx) i c) st b st'
 | stay {most k f i : Int} {re : Re} {nx : Goal} {c : CapsL} {st : Sst} (h0 : 0≤i) (h1 : i≤t.length) (hk : re.mn≤k) (hi : i=f) : EvI t F most (.run (.mk 2 re k f nx) i c) st false st
 | iter {most k f i : Int} {re : Re} {nx : Goal} {c : CapsL} {st st' : Sst} {b : Bool} (h0 : 0≤i) (h1 : i≤t.length) (hk : ¬ (re.mn≤k∧i=f)) (hk0 : 0≤k) (hk1 : k≤10000000000000) (h : EvI t F most (.run (.mk 1 re (k + 1) 0 nx) i c) st b st') : EvI t F most (.run (.mk 2 re k f nx) i c) st b st'
 | save {most k f i : Int} {re : Re} {nx : Goal} {c : CapsL} {st st' : Sst} {b : Bool} (h0 : 0≤i) (h1 : i≤t.length) (h : EvI t F most (.run nx i (withR c re.n f i)) st b st') : EvI t F most (.run (.mk 3 re k f nx) i c) st b st'
 | here {most k f i : Int} {re : Re} {nx : Goal} {c : CapsL} {st st' : Sst} {b : Bool} (h0 : 0≤i) (h1 : i≤t.length) (hi : i=f) (h : EvI t F most (.run nx i c) st b st') : EvI t F most (.run (.mk 4 re k f nx) i c) st b st'
 | gone {most k f i : Int} {re : Re} {nx : Goal} {c : CapsL} {st : Sst} (h0 : 0≤i) (h1 : i≤t.length) (hi : i ≠ f) : EvI t F most (.run (.mk 4 re k f nx) i c) st false st
 | possOut {most k i : Int} {re : Re} {nx : Goal} {c : CapsL} {st x : Sst} {b : Bool} (hm : re.mode=2) (h : EvI t F 1 (.run (.mk 1 (re.setMode 0) 0 0 .nil) i c) st.sub b x) (hx : x.empty=true) : EvI t F most (.rep re k nx i c) st true (st.aft x)
 | possNo {most k i : Int} {re : Re} {nx : Goal} {c : CapsL} {st x : Sst} {b : Bool} (hm : re.mode=2) (h : EvI t F 1 (.run (.mk 1 (re.setMode 0) 0 0 .nil) i c) st.sub b x) (hx : x.empty=false) (he : x.ends=[]) : EvI t F most (.rep re k nx i c) st false (st.aft x)
 | possYes {most k i e : Int} {re : Re} {nx : Goal} {c d : CapsL} {le : List Int} {ld : List CapsL} {st x st' : Sst} {b b' : Bool} (hm : re.mode=2) (h : EvI t F 1 (.run (.mk 1 (re.setMode 0) 0 0 .nil) i c) st.sub b x) (hx : x.empty=false) (he : x.ends=e :: le) (hd : x.caps=d :: ld) (h2 : EvI t F most (.run nx e d) (st.aft x) b' st') : EvI t F most (.rep re k nx i c) st b' st'
 | repOut {most k i : Int} {re : Re} {nx : Goal} {c : CapsL} {st : Sst} (hm : re.mode ≠ 2) (hs : 0≤st.steps) (he : (st.step F).empty=true) : EvI t F most (.rep re k nx i c) st true (st.step F)
 | repMin {most k i : Int} {re kid : Re} {l : List Re} {nx : Goal} {c : CapsL} {st st' : Sst} {b : Bool} (hm : re.mode ≠ 2) (hs : 0≤st.steps) (he : (st.step F).empty=false) (hkk : re.kids=kid :: l) (hk : k < re.mn) (h : EvI t F most (.run (.mk 0 kid 0 0 (.mk 2 re k i nx)) i c) (st.step F) b st') : EvI t F most (.rep re k nx i c) st b st'
 | repMax {most k i : Int} {re kid : Re} {l : List Re} {nx : Goal} {c : CapsL} {st st' : Sst} {b : Bool} (hm : re.mode ≠ 2) (hs : 0≤st.steps) (he : (st.step F).empty=false) (hkk : re.kids=kid :: l) (hk : ¬ k < re.mn) (hx : ¬ (re.mx=-1 ∨ k < re.mx)) (h : EvI t F most (.run nx i c) (st.step F) b st') : EvI t F most (.rep re k nx i c) st b st'
 | lazyT {most k i : Int} {re kid : Re} {l : List Re} {nx : Goal} {c : CapsL} {st st' : Sst} (hm : re.mode=1) (hs : 0≤st.steps) (he : (st.step F).empty=false) (hkk : re.kids=kid :: l) (hk : ¬ k < re.mn) (hx : re.mx=-1 ∨ k < re.mx) (h : EvI t F most (.run nx i c) (st.step F) true st') : EvI t F most (.rep re k nx i c) st true st'
 | lazyF {most k i : Int} {re kid : Re} {l : List Re} {nx : Goal} {c : CapsL} {st s2 st' : Sst} {b : Bool} (hm : re.mode=1) (hs : 0≤st.steps) (he : (st.step F).empty=false) (hkk : re.kids=kid :: l) (hk : ¬ k < re.mn) (hx : re.mx=-1 ∨ k < re.mx) (h : EvI t F most (.run nx i c) (st.step F) false s2)
   (h2 : EvI t F most (.run (.mk 0 kid 0 0 (.mk 2 re k i nx)) i c) s2 b st') : EvI t F most (.rep re k nx i c) st b st'
 | moreT {most k i : Int} {re kid : Re} {l : List Re} {nx : Goal} {c : CapsL} {st st' : Sst} (hm : re.mode ≠ 2) (hm1 : re.mode ≠ 1) (hs : 0≤st.steps) (he : (st.step F).empty=false) (hkk : re.kids=kid :: l) (hk : ¬ k < re.mn) (hx : re.mx=-1 ∨ k < re.mx) (h : EvI t F most (.run (.mk 0 kid 0 0 (.mk 2 re k i nx)) i c) (st.step F) true st') : EvI t F most (.rep re k nx i c) st true st'
 | moreF {most k i : Int} {re kid : Re} {l : List Re} {nx : Goal} {c : CapsL} {st s2 st' : Sst} {b : Bool} (hm : re.mode ≠ 2) (hm1 : re.mode ≠ 1) (hs : 0≤st.steps) (he : (st.step F).empty=false) (hkk : re.kids=kid :: l) (hk : ¬ k < re.mn) (hx : re.mx=-1 ∨ k < re.mx) (h : EvI t F most (.run (.mk 0 kid 0 0 (.mk 2 re k i nx)) i c) (st.step F) false s2)
   (h2 : EvI t F most (.run nx i c) s2 b st') : EvI t F most (.rep re k nx i c) st b st'
 | nodeRep {most i : Int} {re : Re} {nx : Goal} {c : CapsL} {st st' : Sst} {b : Bool} (ho : re.op=4) (h0 : 0≤i) (h1 : i≤t.length) (h : EvI t F most (.rep re 0 nx i c) st b st') : EvI t F most (.node re nx i c) st b st'
 | nodeOut {most i : Int} {re : Re} {nx : Goal} {c : CapsL} {st : Sst} (ho : re.op ≠ 4) (hs : 0≤st.steps) (he : (st.step F).empty=true) : EvI t F most (.node re nx i c) st true (st.step F)
 | node {most i : Int} {re : Re} {nx : Goal} {c : CapsL} {st st' : Sst} {b : Bool} (ho : re.op ≠ 4) (hs : 0≤st.steps) (he : (st.step F).empty=false) (h : EvI t F most (.body re nx i c) (st.step F) b st') : EvI t F most (.node re nx i c) st b st'
 | empty {most i : Int} {re : Re} {nx : Goal} {c : CapsL} {st st' : Sst} {b : Bool} (ho : re.op ∉ ([1,2,3,5,6,7,8,9,10,11] : List Int)) (h : EvI t F most (.run nx i c) st b st') : EvI t F most (.body re nx i c) st b st'
 | setYes {most i : Int} {re : Re} {nx : Goal} {c : CapsL} {st st' : Sst} {b : Bool} (ho : re.op=1) (hi : i < t.length) (hs : inB re.set (tAt t i)=true) (h : EvI t F most (.run nx (i + 1) c) st b st') : EvI t F most (.body re nx i c) st b st'
 | setNo {most i : Int} {re : Re} {nx : Goal} {c : CapsL} {st : Sst} (ho : re.op=1) (hn : ¬ (i < t.length∧inB re.set (tAt t i)=true)) : EvI t F most (.body re nx i c) st false st
 | cat {most i : Int} {re : Re} {nx : Goal} {c : CapsL} {st st' : Sst} {b : Bool} (ho : re.op=2) (h : EvI t F most (.run (pushAll re.kids nx) i c) st b st') : EvI t F most (.body re nx i c) st b st'
 | alt {most i : Int} {re : Re} {nx : Goal} {c : CapsL} {st st' : Sst} {b : Bool} (ho : re.op=3) (h : EvI t F most (.alt re.kids nx i c) st b st') : EvI t F most (.body re nx i c) st b st'
 | altNil {most i : Int} {nx : Goal} {c : CapsL} {st : Sst} : EvI t F most (.alt [] nx i c) st false st
 | altT {most i : Int} {kid : Re} {l : List Re} {nx : Goal} {c : CapsL} {st st' : Sst} (h : EvI t F most (.run (.mk 0 kid 0 0 nx) i c) st true st') : EvI t F most (.alt (kid :: l) nx i c) st true st'
 | altF {most i : Int} {kid : Re} {l : List Re} {nx : Goal} {c : CapsL} {st s2 st' : Sst} {b : Bool} (h : EvI t F most (.run (.mk 0 kid 0 0 nx) i c) st false s2) (h2 : EvI t F most (.alt l nx i c) s2 b st') : EvI t F most (.alt (kid :: l) nx i c) st b st'
 | cap {most i : Int} {re kid : Re} {l : List Re} {nx : Goal} {c : CapsL} {st st' : Sst} {b : Bool} (ho : re.op=5) (hkk : re.kids=kid :: l) (h : EvI t F most (.run (.mk 0 kid 0 0 (.mk 3 re 0 i nx)) i c) st b st') : EvI t F most (.body re nx i c) st b st'
 | refNone {most i : Int} {re : Re} {nx : Goal} {c : CapsL} {st : Sst} (ho : re.op=6) (hx : (spanR c re.n).1 < 0) : EvI t F most (.body re nx i c) st false st
 | refLong {most i : Int} {re : Re} {nx : Goal} {c : CapsL} {st : Sst} (ho : re.op=6) (hx : ¬ (spanR c re.n).1 < 0) (h12 : ¬ (spanR c re.n).2 < (spanR c re.n).1) (h2 : (spanR c re.n).2≤t.length) (hl : t.length < i + (spanR c re.n).2 - (spanR c re.n).1) : EvI t F most (.body re nx i c) st false st
 | refYes {most i : Int} {re : Re} {nx : Goal} {c : CapsL} {st st' : Sst} {b : Bool} (ho : re.op=6) (hx : ¬ (spanR c re.n).1 < 0) (h12 : ¬ (spanR c re.n).2 < (spanR c re.n).1) (h2 : (spanR c re.n).2≤t.length) (hl : ¬ t.length < i + (spanR c re.n).2 - (spanR c re.n).1) (hs : sameR t (spanR c re.n).1 i ((spanR c re.n).2 - (spanR c re.n).1).toNat=true)
   (h : EvI t F most (.run nx (i + (spanR c re.n).2 - (spanR c re.n).1) c) st b st') : EvI t F most (.body re nx i c) st b st'
 | refNo {most i : Int} {re : Re} {nx : Goal} {c : CapsL} {st : Sst} (ho : re.op=6) (hx : ¬ (spanR c re.n).1 < 0) (h12 : ¬ (spanR c re.n).2 < (spanR c re.n).1) (h2 : (spanR c re.n).2≤t.length) (hl : ¬ t.length < i + (spanR c re.n).2 - (spanR c re.n).1) (hs : sameR t (spanR c re.n).1 i ((spanR c re.n).2 - (spanR c re.n).1).toNat=false) : EvI t F most (.body re nx i c) st false st
 | aheadOut {most i : Int} {re kid : Re} {l : List Re} {nx : Goal} {c : CapsL} {st x : Sst} {b : Bool} (ho : re.op=7) (hkk : re.kids=kid :: l) (h : EvI t F 1 (.run (.mk 0 kid 0 0 .nil) i c) st.sub b x) (hx : x.empty=true) : EvI t F most (.body re nx i c) st true (st.aft x)
 | aheadNo {most i : Int} {re kid : Re} {l : List Re} {nx : Goal} {c : CapsL} {st x : Sst} {b : Bool} (ho : re.op=7) (hkk : re.kids=kid :: l) (h : EvI t F 1 (.run (.mk 0 kid 0 0 .nil) i c) st.sub b x) (hx : x.empty=false) (he : x.ends=[]) (hn : re.neg=false) : EvI t F most (.body re nx i c) st false (st.aft x)
 | aheadNoNeg {most i : Int} {re kid : Re} {l : List Re} {nx : Goal} {c : CapsL} {st x st' : Sst} {b b' : Bool} (ho : re.op=7) (hkk : re.kids=kid :: l) (h : EvI t F 1 (.run (.mk 0 kid 0 0 .nil) i c) st.sub b x) (hx : x.empty=false) (he : x.ends=[]) (hn : re.neg=true) (h2 : EvI t F most (.run nx i c) (st.aft x) b' st') : EvI t F most (.body re nx i c) st b' st'
 | aheadYes {most i e : Int} {re kid : Re} {l : List Re} {nx : Goal} {c d : CapsL} {le : List Int} {ld : List CapsL} {st x st' : Sst} {b b' : Bool} (ho : re.op=7) (hkk : re.kids=kid :: l) (h : EvI t F 1 (.run (.mk 0 kid 0 0 .nil) i c) st.sub b x) (hx : x.empty=false) (he : x.ends=e :: le) (hd : x.caps=d :: ld) (hn : re.neg=false) (h2 : EvI t F most (.run nx i d) (st.aft x) b' st') : EvI t F most (.body re nx i c) st b' st'
 | aheadYesNeg {most i e : Int} {re kid : Re} {l : List Re} {nx : Goal} {c d : CapsL} {le : List Int} {ld : List CapsL} {st x : Sst} {b : Bool} (ho : re.op=7) (hkk : re.kids=kid :: l) (h : EvI t F 1 (.run (.mk 0 kid 0 0 .nil) i c) st.sub b x) (hx : x.empty=false) (he : x.ends=e :: le) (hd : x.caps=d :: ld) (hn : re.neg=true) : EvI t F most (.body re nx i c) st false (st.aft x)
 | behind {most i : Int} {re kid : Re} {l : List Re} {nx : Goal} {c : CapsL} {st st' : Sst} {b : Bool} (ho : re.op=8) (hkk : re.kids=kid :: l) (he : st.empty=false) (h : EvI t F most (.behind re kid nx i c (i.toNat + 1)) st b st') : EvI t F most (.body re nx i c) st b st'
 | bhNo {most i : Int} {re kid : Re} {nx : Goal} {c : CapsL} {st : Sst} (hn : re.neg=false) : EvI t F most (.behind re kid nx i c 0) st false st
 | bhNoNeg {most i : Int} {re kid : Re} {nx : Goal} {c : CapsL} {st st' : Sst} {b : Bool} (hn : re.neg=true) (h : EvI t F most (.run nx i c) st b st') : EvI t F most (.behind re kid nx i c 0) st b st'
 | bhOut {most i : Int} {j : Nat} {re kid : Re} {nx : Goal} {c : CapsL} {st x : Sst} {b : Bool} (h : EvI t F 1 (.run (.mk 0 kid 0 0 (hereG i)) j c) st.sub b x) (hx : x.empty=true) : EvI t F most (.behind re kid nx i c (j + 1)) st true (st.aft x)
 | bhYes {most i e : Int} {j : Nat} {re kid : Re} {nx : Goal} {c d : CapsL} {le : List Int} {ld : List CapsL} {st x st' : Sst} {b b' : Bool} (h : EvI t F 1 (.run (.mk 0 kid 0 0 (hereG i)) j c) st.sub b x) (hx : x.empty=false) (he : x.ends=e :: le) (hd : x.caps=d :: ld) (hn : re.neg=false) (h2 : EvI t F most (.run nx i d) (st.aft x) b' st') : EvI t F most (.behind re kid nx i c (j + 1)) st b' st'
 | bhYesNeg {most i e : Int} {j : Nat} {re kid : Re} {nx : Goal} {c d : CapsL} {le : List Int} {ld : List CapsL} {st x : Sst} {b : Bool} (h : EvI t F 1 (.run (.mk 0 kid 0 0 (hereG i)) j c) st.sub b x) (hx : x.empty=false) (he : x.ends=e :: le) (hd : x.caps=d :: ld) (hn : re.neg=true) : EvI t F most (.behind re kid nx i c (j + 1)) st false (st.aft x)
 | bhMore {most i : Int} {j : Nat} {re kid : Re} {nx : Goal} {c : CapsL} {st x st' : Sst} {b b' : Bool} (h : EvI t F 1 (.run (.mk 0 kid 0 0 (hereG i)) j c) st.sub b x) (hx : x.empty=false) (he : x.ends=[]) (h2 : EvI t F most (.behind re kid nx i c j) (st.aft x) b' st') : EvI t F most (.behind re kid nx i c (j + 1)) st b' st'
 | atomOut {most i : Int} {re kid : Re} {l : List Re} {nx : Goal} {c : CapsL} {st x : Sst} {b : Bool} (ho : re.op=9) (hkk : re.kids=kid :: l) (h : EvI t F 1 (.run (.mk 0 kid 0 0 .nil) i c) st.sub b x) (hx : x.empty=true) : EvI t F most (.body re nx i c) st true (st.aft x)
 | atomNo {most i : Int} {re kid : Re} {l : List Re} {nx : Goal} {c : CapsL} {st x : Sst} {b : Bool} (ho : re.op=9) (hkk : re.kids=kid :: l) (h : EvI t F 1 (.run (.mk 0 kid 0 0 .nil) i c) st.sub b x) (hx : x.empty=false) (he : x.ends=[]) : EvI t F most (.body re nx i c) st false (st.aft x)
 | atomYes {most i e : Int} {re kid : Re} {l : List Re} {nx : Goal} {c d : CapsL} {le : List Int} {ld : List CapsL} {st x st' : Sst} {b b' : Bool} (ho : re.op=9) (hkk : re.kids=kid :: l) (h : EvI t F 1 (.run (.mk 0 kid 0 0 .nil) i c) st.sub b x) (hx : x.empty=false) (he : x.ends=e :: le) (hd : x.caps=d :: ld) (h2 : EvI t F most (.run nx e d) (st.aft x) b' st') : EvI t F most (.body re nx i c) st b' st'
 | cond {most i : Int} {re yes no : Re} {l : List Re} {nx : Goal} {c : CapsL} {st st' : Sst} {b : Bool} (ho : re.op=10) (hkk : re.kids=yes :: no :: l) (h : EvI t F most (.run (.mk 0 (if 0≤(spanR c re.n).1 then yes else no) 0 0 nx) i c) st b st') : EvI t F most (.body re nx i c) st b st'
 | assertYes {most i : Int} {re : Re} {nx : Goal} {c : CapsL} {st st' : Sst} {b : Bool} (ho : re.op=11) (hh : holdsR re.n t i=true) (h : EvI t F most (.run nx i c) st b st') : EvI t F most (.body re nx i c) st b st'
 | assertNo {most i : Int} {re : Re} {nx : Goal} {c : CapsL} {st : Sst} (ho : re.op=11) (hh : holdsR re.n t i=false) : EvI t F most (.body re nx i c) st false st
def Task.e : Task→ETask
 | .run g i c=>.run g i c
 | .rep (.mk _ re k _ nx) i c=>.rep re k nx i c
 | .rep .nil i c=>.alt [] .nil i c
 | .node (.mk _ re _ _ nx) i c=>.node re nx i c
 | .node .nil i c=>.alt [] .nil i c
section conv
variable {t : List Int} {F : Int} {rec : Int→Task→Sst→Option (Bool × Sst)} (hrec : ∀ most task st b st',rec most task st=some (b,st')→EvI t F most task.e st b st')
include hrec
end conv
def Pfx (N : Nat) (st' : Sst) (o : Option (Bool × Sst)) : Prop :=
 (st'.ends.length < N∧o=some (false,st')) ∨ (N≤st'.ends.length∧∃ s2,o=some (true,s2)∧s2.empty=false∧s2.steps≤st'.steps∧s2.ends=st'.ends.take N∧s2.caps=st'.caps.take N)
section pfx
variable {t : List Int} {F : Int} {N : Nat} {rec : Int→Task→Sst→Option (Bool × Sst)} (hrec : ∀ task st b st',rec (-1) task st=some (b,st')→st.empty=false→st'.empty=false→st.ends.length < N→st.caps.length=st.ends.length→Pfx N st' (rec N task st)) (hev : ∀ most task st b st',rec most task st=some (b,st')→EvI t F most task.e st b st')
include hrec hev
end pfx
end Go.Proofs.Ytdofoappodmcoaa
