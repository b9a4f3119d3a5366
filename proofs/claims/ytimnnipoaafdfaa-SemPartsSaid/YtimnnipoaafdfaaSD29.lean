/- A part of the proof (E1 E2). -/
import Derived.Test.YtimnnipoaafdfaaSD6
import Derived.Test.YtimnnipoaafdfaaSD16
set_option linter.unusedSimpArgs false
set_option linter.unusedVariables false
set_option maxRecDepth 100000
set_option maxHeartbeats 80000000
namespace Go.Proofs.Ytimnnipoaafdfaa
open Go.VL Go.Proofs.Try
inductive ETask where
 | run (g : Goal) (i : Int) (c : CapsL)
 | rep (re : Re) (k : Int) (nx : Goal) (i : Int) (c : CapsL)
 | node (re : Re) (nx : Goal) (i : Int) (c : CapsL)
 | body (re : Re) (nx : Goal) (i : Int) (c : CapsL)
 | alt (l : List Re) (nx : Goal) (i : Int) (c : CapsL)
 | behind (re kid : Re) (nx : Goal) (i : Int) (c : CapsL) (j : Nat)
def Sst.sub (st : Sst) : Sst := ⟨st.steps,false,[],[]⟩
def Sst.aft (st x : Sst) : Sst := { st with steps := x.steps,empty := x.empty }
def hereG (i : Int) : Goal := .mk 4 (.mk 0 [] [] 0 0 0 0 false) 0 i .nil
inductive EvI (t : List Int) (F : Int) : Int→ETask→Sst→Bool→Sst→Prop where
 | found {most : Int} {i : Int} {c : CapsL} {st : Sst} (h0 : 0≤i) (h1 : i≤t.length) (hl : st.caps.length=st.ends.length) (hl1 : st.ends.length < 2000000000000) : EvI t F most (.run .nil i c) st (decide (0≤most) && decide (most≤(st.ends.length : Int) + 1)) { st with ends := st.ends ++ [i],caps := st.caps ++ [c] }
 | tree {most kind k f i : Int} {re : Re} {nx : Goal} {c : CapsL} {st st' : Sst} {b : Bool} (hk1 : kind ≠ 1) (hk2 : kind ≠ 2) (hk3 : kind ≠ 3) (hk4 : kind ≠ 4) (h0 : 0≤i) (h1 : i≤t.length) (h : EvI t F most (.node re nx i c) st b st') : EvI t F most (.run (.mk kind re k f nx) i c) st b st'
 | goRep {most k f i : Int} {re : Re} {nx : Goal} {c : CapsL} {st st' : Sst} {b : Bool} (h0 : 0≤i) (h1 : i≤t.length) (h : EvI t F most (.rep re k nx i c) st b st') : EvI t F most (.run (.mk 1 re k f nx) i c) st b st'
 | stay {most k f i : Int} {re : Re} {nx : Goal} {c : CapsL} {st : Sst} (h0 : 0≤i) (h1 : i≤t.length) (hk : re.mn≤k) (hi : i=f) : EvI t F most (.run (.mk 2 re k f nx) i c) st false st
 | iter {most k f i : Int} {re : Re} {nx : Goal} {c : CapsL} {st st' : Sst} {b : Bool} (h0 : 0≤i) (h1 : i≤t.length) (hk : ¬ (re.mn≤k∧i=f)) (hk0 : 0≤k) (hk1 : k≤10000000000000) (h : EvI t F most (.run (.mk 1 re (k + 1) 0 nx) i c) st b st') : EvI t F most (.run (.mk 2 re k f nx) i c) st b st'
 | save {most k f i : Int} {re : Re} {nx : Goal} {c : CapsL} {st st' : Sst} {b : Bool} (h0 : 0≤i) (h1 : i≤t.length) (h : EvI t F most (.run nx i (withR c re.n f i)) st b st') : EvI t F most (.run (.mk 3 re k f nx) i c) st b st'
 | here {most k f i : Int} {re : Re} {nx : Goal} {c : CapsL} {st st' : Sst} {b : Bool} (h0 : 0≤i) (h1 : i≤t.length) (hi : i=f) (h : EvI t F most (.run nx i c) st b st') : EvI t F most (.run (.mk 4 re k f nx) i c) st b st'
 | gone {most k f i : Int} {re : Re} {nx : Goal} {c : CapsL} {st : Sst} (h0 : 0≤i) (h1 : i≤t.length) (hi : i ≠ f) : EvI t F most (.run (.mk 4 re k f nx) i c) st false st
 | possOut {most k i : Int} {re : Re} {nx : Goal} {c : CapsL} {st x : Sst} {b : Bool} (hm : re.mode=2) (h : EvI t F 1 (.run (.mk 1 (re.setMode 0) 0 0 .nil) i c) st.sub b x) (hx : x.empty=true) : EvI t F most (.rep re k nx i c) st true (st.aft x)
 | possNo {most k i : Int} {re : Re} {nx : Goal} {c : CapsL} {st x : Sst} {b : Bool} (hm : re.mode=2) (h : EvI t F 1 (.run (.mk 1 (re.setMode 0) 0 0 .nil) i c) st.sub b x) (hx : x.empty=false) (he : x.ends=[]) : EvI t F most (.rep re k nx i c) st false (st.aft x)
 | possYes {most k i e : Int} {re : Re} {nx : Goal} {c d : CapsL} {le : List Int} {ld : List CapsL} {st x st' : Sst} {b b' : Bool} (hm : re.mode=2) (h : EvI t F 1 (.run (.mk 1 (re.setMode 0) 0 0 .nil) i c) st.sub b x) (hx : x.empty=false) (he : x.ends=e :: le) (hd : x.caps=d :: ld) (h2 : EvI t F most (.run nx e d) (st.aft x) b' st') : EvI t F most (.rep re k nx i c) st b' st'
 | repOut {most k i : Int} {re : Re} {nx : Goal} {c : CapsL} {st : Sst} (hm : re.mode ≠ 2) (hs : 0≤st.steps) (he : (st.step F).empty=true) : EvI t F most (.rep re k nx i c) st true (st.step F)
 | repMin {most k i : Int} {re kid : Re} {l : List Re} {nx : Goal} {c : CapsL} {st st' : Sst} {b : Bool} (hm : re.mode ≠ 2) (hs : 0≤st.steps) (he : (st.step F).empty=false) (hkk : re.kids=kid :: l) (hk : k < re.mn) (h : EvI t F most (.run (.mk 0 kid 0 0 (.mk 2 re k i nx)) i c) (st.step F) b st') : EvI t F most (.rep re k nx i c) st b st'
 | repMax {most k i : Int} {re kid : Re} {l : List Re} {nx : Goal} {c : CapsL} {st st' : Sst} {b : Bool} (hm : re.mode ≠ 2) (hs : 0≤st.steps) (he : (st.step F).empty=false) (hkk : re.kids=kid :: l) (hk : ¬ k < re.mn) (hx : ¬ (re.mx=-1 ∨ k < re.mx)) (h : EvI t F most (.run nx i c) (st.step F) b st') : EvI t F most (.rep re k nx i c) st b st'
 | lazyT {most k i : Int} {re kid : Re} {l : List Re} {nx : Goal} {c : CapsL} {st st' : Sst} (hm : re.mode=1) (hs : 0≤st.steps) (he : (st.step F).empty=false) (hkk : re.kids=kid :: l) (hk : ¬ k < re.mn) (hx : re.mx=-1 ∨ k < re.mx) (h : EvI t F most (.run nx i c) (st.step F) true st') : EvI t F most (.rep re k nx i c) st true st'
 | lazyF {most k i : Int} {re kid : Re} {l : List Re} {nx : Goal} {c : CapsL} {st s2 st' : Sst} {b : Bool} (hm : re.mode=1) (hs : 0≤st.steps) (he : (st.step F).empty=false) (hkk : re.kids=kid :: l) (hk : ¬ k < re.mn) (hx : re.mx=-1 ∨ k < re.mx) (h : EvI t F most (.run nx i c) (st.step F) false s2)
   (h2 : EvI t F most (.run (.mk 0 kid 0 0 (.mk 2 re k i nx)) i c) s2 b st') : EvI t F most (.rep re k nx i c) st b st'
 | moreT {most k i : Int} {re kid : Re} {l : List Re} {nx : Goal} {c : CapsL} {st st' : Sst} (hm : re.mode ≠ 2) (hm1 : re.mode ≠ 1) (hs : 0≤st.steps) (he : (st.step F).empty=false) (hkk : re.kids=kid :: l) (hk : ¬ k < re.mn) (hx : re.mx=-1 ∨ k < re.mx) (h : EvI t F most (.run (.mk 0 kid 0 0 (.mk 2 re k i nx)) i c) (st.step F) true st') : EvI t F most (.rep re k nx i c) st true st'
 | moreF {most k i : Int} {re kid : Re} {l : List Re} {nx : Goal} {c : CapsL} {st s2 st' : Sst} {b : Bool} (hm : re.mode ≠ 2) (hm1 : re.mode ≠ 1) (hs : 0≤st.steps) (he : (st.step F).empty=false) (hkk : re.kids=kid :: l) (hk : ¬ k < re.mn) (hx : re.mx=-1 ∨ k < re.mx) (h : EvI t F most (.run (.mk 0 kid 0 0 (.mk 2 re k i nx)) i c) (st.step F) false s2)
   (h2 : EvI t F most (.run nx i c) s2 b st') : EvI t F most (.rep re k nx i c) st b st'
 | nodeRep {most i : Int} {re : Re} {nx : Goal} {c : CapsL} {st st' : Sst} {b : Bool} (ho : re.op=4) (h0 : 0≤i) (h1 : i≤t.length) (h : EvI t F most (.rep re 0 nx i c) st b st') : EvI t F most (.node re nx i c) st b st'
 | nodeOut {most i : Int} {re : Re} {nx : Goal} {c : CapsL} {st : Sst} (ho : re.op ≠ 4) (hs : 0≤st.steps) (he : (st.step F).empty=true) : EvI t F most (.node re nx i c) st true (st.step F)
 | node {most i : Int} {re : Re} {nx : Goal} {c : CapsL} {st st' : Sst} {b : Bool} (ho : re.op ≠ 4) (hs : 0≤st.steps) (he : (st.step F).empty=false) (h : EvI t F most (.body re nx i c) (st.step F) b st') : EvI t F most (.node re nx i c) st b st'
 | empty {most i : Int} {re : Re} {nx : Goal} {c : CapsL} {st st' : Sst} {b : Bool} (ho : re.op ∉ ([1,2,3,5,6,7,8,9,10,11] : List Int)) (h : EvI t F most (.run nx i c) st b st') : EvI t F most (.body re nx i c) st b st'
 | setYes {most i : Int} {re : Re} {nx : Goal} {c : CapsL} {st st' : Sst} {b : Bool} (ho : re.op=1) (hi : i < t.length) (hs : inB re.set (tAt t i)=true) (h : EvI t F most (.run nx (i + 1) c) st b st') : EvI t F most (.body re nx i c) st b st'
 | setNo {most i : Int} {re : Re} {nx : Goal} {c : CapsL} {st : Sst} (ho : re.op=1) (hn : ¬ (i < t.length∧inB re.set (tAt t i)=true)) : EvI t F most (.body re nx i c) st false st
 | cat {most i : Int} {re : Re} {nx : Goal} {c : CapsL} {st st' : Sst} {b : Bool} (ho : re.op=2) (h : EvI t F most (.run (pushAll re.kids nx) i c) st b st') : EvI t F most (.body re nx i c) st b st'
 | alt {most i : Int} {re : Re} {nx : Goal} {c : CapsL} {st st' : Sst} {b : Bool} (ho : re.op=3) (h : EvI t F most (.alt re.kids nx i c) st b st') : EvI t F most (.body re nx i c) st b st'
 | altNil {most i : Int} {nx : Goal} {c : CapsL} {st : Sst} : EvI t F most (.alt [] nx i c) st false st
 | altT {most i : Int} {kid : Re} {l : List Re} {nx : Goal} {c : CapsL} {st st' : Sst} (h : EvI t F most (.run (.mk 0 kid 0 0 nx) i c) st true st') : EvI t F most (.alt (kid :: l) nx i c) st true st'
 | altF {most i : Int} {kid : Re} {l : List Re} {nx : Goal} {c : CapsL} {st s2 st' : Sst} {b : Bool} (h : EvI t F most (.run (.mk 0 kid 0 0 nx) i c) st false s2) (h2 : EvI t F most (.alt l nx i c) s2 b st') : EvI t F most (.alt (kid :: l) nx i c) st b st'
 | cap {most i : Int} {re kid : Re} {l : List Re} {nx : Goal} {c : CapsL} {st st' : Sst} {b : Bool} (ho : re.op=5) (hkk : re.kids=kid :: l) (h : EvI t F most (.run (.mk 0 kid 0 0 (.mk 3 re 0 i nx)) i c) st b st') : EvI t F most (.body re nx i c) st b st'
 | refNone {most i : Int} {re : Re} {nx : Goal} {c : CapsL} {st : Sst} (ho : re.op=6) (hx : (spanR c re.n).1 < 0) : EvI t F most (.body re nx i c) st false st
 | refLong {most i : Int} {re : Re} {nx : Goal} {c : CapsL} {st : Sst} (ho : re.op=6) (hx : ¬ (spanR c re.n).1 < 0) (h12 : ¬ (spanR c re.n).2 < (spanR c re.n).1) (h2 : (spanR c re.n).2≤t.length) (hl : t.length < i + (spanR c re.n).2 - (spanR c re.n).1) : EvI t F most (.body re nx i c) st false st
 | refYes {most i : Int} {re : Re} {nx : Goal} {c : CapsL} {st st' : Sst} {b : Bool} (ho : re.op=6) (hx : ¬ (spanR c re.n).1 < 0) (h12 : ¬ (spanR c re.n).2 < (spanR c re.n).1) (h2 : (spanR c re.n).2≤t.length) (hl : ¬ t.length < i + (spanR c re.n).2 - (spanR c re.n).1) (hs : sameR t (spanR c re.n).1 i ((spanR c re.n).2 - (spanR c re.n).1).toNat=true)
   (h : EvI t F most (.run nx (i + (spanR c re.n).2 - (spanR c re.n).1) c) st b st') : EvI t F most (.body re nx i c) st b st'
 | refNo {most i : Int} {re : Re} {nx : Goal} {c : CapsL} {st : Sst} (ho : re.op=6) (hx : ¬ (spanR c re.n).1 < 0) (h12 : ¬ (spanR c re.n).2 < (spanR c re.n).1) (h2 : (spanR c re.n).2≤t.length) (hl : ¬ t.length < i + (spanR c re.n).2 - (spanR c re.n).1) (hs : sameR t (spanR c re.n).1 i ((spanR c re.n).2 - (spanR c re.n).1).toNat=false) : EvI t F most (.body re nx i c) st false st
 | aheadOut {most i : Int} {re kid : Re} {l : List Re} {nx : Goal} {c : CapsL} {st x : Sst} {b : Bool} (ho : re.op=7) (hkk : re.kids=kid :: l) (h : EvI t F 1 (.run (.mk 0 kid 0 0 .nil) i c) st.sub b x) (hx : x.empty=true) : EvI t F most (.body re nx i c) st true (st.aft x)
 | aheadNo {most i : Int} {re kid : Re} {l : List Re} {nx : Goal} {c : CapsL} {st x : Sst} {b : Bool} (ho : re.op=7) (hkk : re.kids=kid :: l) (h : EvI t F 1 (.run (.mk 0 kid 0 0 .nil) i c) st.sub b x) (hx : x.empty=false) (he : x.ends=[]) (hn : re.neg=false) : EvI t F most (.body re nx i c) st false (st.aft x)
 | aheadNoNeg {most i : Int} {re kid : Re} {l : List Re} {nx : Goal} {c : CapsL} {st x st' : Sst} {b b' : Bool} (ho : re.op=7) (hkk : re.kids=kid :: l) (h : EvI t F 1 (.run (.mk 0 kid 0 0 .nil) i c) st.sub b x) (hx : x.empty=false) (he : x.ends=[]) (hn : re.neg=true) (h2 : EvI t F most (.run nx i c) (st.aft x) b' st') : EvI t F most (.body re nx i c) st b' st'
 | aheadYes {most i e : Int} {re kid : Re} {l : List Re} {nx : Goal} {c d : CapsL} {le : List Int} {ld : List CapsL} {st x st' : Sst} {b b' : Bool} (ho : re.op=7) (hkk : re.kids=kid :: l) (h : EvI t F 1 (.run (.mk 0 kid 0 0 .nil) i c) st.sub b x) (hx : x.empty=false) (he : x.ends=e :: le) (hd : x.caps=d :: ld) (hn : re.neg=false) (h2 : EvI t F most (.run nx i d) (st.aft x) b' st') : EvI t F most (.body re nx i c) st b' st'
 | aheadYesNeg {most i e : Int} {re kid : Re} {l : List Re} {nx : Goal} {c d : CapsL} {le : List Int} {ld : List CapsL} {st x : Sst} {b : Bool} (ho : re.op=7) (hkk : re.kids=kid :: l) (h : EvI t F 1 (.run (.mk 0 kid 0 0 .nil) i c) st.sub b x) (hx : x.empty=false) (he : x.ends=e :: le) (hd : x.caps=d :: ld) (hn : re.neg=true) : EvI t F most (.body re nx i c) st false (st.aft x)
 | behind {most i : Int} {re kid : Re} {l : List Re} {nx : Goal} {c : CapsL} {st st' : Sst} {b : Bool} (ho : re.op=8) (hkk : re.kids=kid :: l) (he : st.empty=false) (h : EvI t F most (.behind re kid nx i c (i.toNat + 1)) st b st') : EvI t F most (.body re nx i c) st b st'
 | bhNo {most i : Int} {re kid : Re} {nx : Goal} {c : CapsL} {st : Sst} (hn : re.neg=false) : EvI t F most (.behind re kid nx i c 0) st false st
 | bhNoNeg {most i : Int} {re kid : Re} {nx : Goal} {c : CapsL} {st st' : Sst} {b : Bool} (hn : re.neg=true) (h : EvI t F most (.run nx i c) st b st') : EvI t F most (.behind re kid nx i c 0) st b st'
 | bhOut {most i : Int} {j : Nat} {re kid : Re} {nx : Goal} {c : CapsL} {st x : Sst} {b : Bool} (h : EvI t F 1 (.run (.mk 0 kid 0 0 (hereG i)) j c) st.sub b x) (hx : x.empty=true) : EvI t F most (.behind re kid nx i c (j + 1)) st true (st.aft x)
 | bhYes {most i e : Int} {j : Nat} {re kid : Re} {nx : Goal} {c d : CapsL} {le : List Int} {ld : List CapsL} {st x st' : Sst} {b b' : Bool} (h : EvI t F 1 (.run (.mk 0 kid 0 0 (hereG i)) j c) st.sub b x) (hx : x.empty=false) (he : x.ends=e :: le) (hd : x.caps=d :: ld) (hn : re.neg=false) (h2 : EvI t F most (.run nx i d) (st.aft x) b' st') : EvI t F most (.behind re kid nx i c (j + 1)) st b' st'
 | bhYesNeg {most i e : Int} {j : Nat} {re kid : Re} {nx : Goal} {c d : CapsL} {le : List Int} {ld : List CapsL} {st x : Sst} {b : Bool} (h : EvI t F 1 (.run (.mk 0 kid 0 0 (hereG i)) j c) st.sub b x) (hx : x.empty=false) (he : x.ends=e :: le) (hd : x.caps=d :: ld) (hn : re.neg=true) : EvI t F most (.behind re kid nx i c (j + 1)) st false (st.aft x)
 | bhMore {most i : Int} {j : Nat} {re kid : Re} {nx : Goal} {c : CapsL} {st x st' : Sst} {b b' : Bool} (h : EvI t F 1 (.run (.mk 0 kid 0 0 (hereG i)) j c) st.sub b x) (hx : x.empty=false) (he : x.ends=[]) (h2 : EvI t F most (.behind re kid nx i c j) (st.aft x) b' st') : EvI t F most (.behind re kid nx i c (j + 1)) st b' st'
 | atomOut {most i : Int} {re kid : Re} {l : List Re} {nx : Goal} {c : CapsL} {st x : Sst} {b : Bool} (ho : re.op=9) (hkk : re.kids=kid :: l) (h : EvI t F 1 (.run (.mk 0 kid 0 0 .nil) i c) st.sub b x) (hx : x.empty=true) : EvI t F most (.body re nx i c) st true (st.aft x)
 | atomNo {most i : Int} {re kid : Re} {l : List Re} {nx : Goal} {c : CapsL} {st x : Sst} {b : Bool} (ho : re.op=9) (hkk : re.kids=kid :: l) (h : EvI t F 1 (.run (.mk 0 kid 0 0 .nil) i c) st.sub b x) (hx : x.empty=false) (he : x.ends=[]) : EvI t F most (.body re nx i c) st false (st.aft x)
 | atomYes {most i e : Int} {re kid : Re} {l : List Re} {nx : Goal} {c d : CapsL} {le : List Int} {ld : List CapsL} {st x st' : Sst} {b b' : Bool} (ho : re.op=9) (hkk : re.kids=kid :: l) (h : EvI t F 1 (.run (.mk 0 kid 0 0 .nil) i c) st.sub b x) (hx : x.empty=false) (he : x.ends=e :: le) (hd : x.caps=d :: ld) (h2 : EvI t F most (.run nx e d) (st.aft x) b' st') : EvI t F most (.body re nx i c) st b' st'
 | cond {most i : Int} {re yes no : Re} {l : List Re} {nx : Goal} {c : CapsL} {st st' : Sst} {b : Bool} (ho : re.op=10) (hkk : re.kids=yes :: no :: l) (h : EvI t F most (.run (.mk 0 (if 0≤(spanR c re.n).1 then yes else no) 0 0 nx) i c) st b st') : EvI t F most (.body re nx i c) st b st'
 | assertYes {most i : Int} {re : Re} {nx : Goal} {c : CapsL} {st st' : Sst} {b : Bool} (ho : re.op=11) (hh : holdsR re.n t i=true) (h : EvI t F most (.run nx i c) st b st') : EvI t F most (.body re nx i c) st b st'
 | assertNo {most i : Int} {re : Re} {nx : Goal} {c : CapsL} {st : Sst} (ho : re.op=11) (hh : holdsR re.n t i=false) : EvI t F most (.body re nx i c) st false st
theorem firstR_inv {rec : Int→Task→Sst→Option (Bool × Sst)} {g : Goal} {i : Int} {c : CapsL} {st s2 : Sst} {o : Option (Int × CapsL)} (h : firstR rec g i c st=some (o,s2)) :
  ∃ b x,rec 1 (.run g i c) st.sub=some (b,x)∧s2=st.aft x∧((x.empty=true∧o=none) ∨ (x.empty=false∧x.ends=[]∧o=none) ∨ (x.empty=false∧∃ e le d ld,x.ends=e :: le∧x.caps=d :: ld∧o=some (e,d))) := by
 unfold firstR at h
 unfold Sst.sub Sst.aft
 cases hx : rec 1 (.run g i c) ⟨st.steps,false,[],[]⟩ with
 | none=>rw [hx] at h; cases h
 | some y =>
  obtain ⟨b,x⟩ := y
  rw [hx] at h
  simp only at h
  refine ⟨b,x,rfl,?_⟩
  cases he : x.empty with
  | true =>
   rw [he,if_pos rfl] at h
   cases h
   exact ⟨rfl,.inl ⟨rfl,rfl⟩⟩
  | false =>
   rw [he,if_neg Bool.false_ne_true] at h
   cases hE : x.ends with
   | nil =>
    rw [hE] at h
    cases h
    exact ⟨rfl,.inr (.inl ⟨rfl,rfl,rfl⟩)⟩
   | cons e le =>
    cases hD : x.caps with
    | nil=>rw [hE,hD] at h; cases h
    | cons d ld =>
     rw [hE,hD] at h
     cases h
     exact ⟨rfl,.inr (.inr ⟨rfl,e,le,d,ld,rfl,rfl,rfl⟩)⟩
def Task.e : Task→ETask
 | .run g i c=>.run g i c
 | .rep (.mk _ re k _ nx) i c=>.rep re k nx i c
 | .rep .nil i c=>.alt [] .nil i c
 | .node (.mk _ re _ _ nx) i c=>.node re nx i c
 | .node .nil i c=>.alt [] .nil i c
section conv
variable {t : List Int} {F : Int} {rec : Int→Task→Sst→Option (Bool × Sst)} (hrec : ∀ most task st b st',rec most task st=some (b,st')→EvI t F most task.e st b st')
include hrec
theorem alt_evI {most : Int} {nx : Goal} {i : Int} {c : CapsL} : ∀ (l : List Re) (st st' : Sst) (b : Bool),altR (fun k st=>rec most (.run (.mk 0 k 0 0 nx) i c) st) l st=some (b,st')→EvI t F most (.alt l nx i c) st b st'
 | [],st,st',b,h=>by simp only [altR] at h; cases h; exact .altNil
 | k :: l,st,st',b,h=>by
  simp only [altR] at h
  cases hx : rec most (.run (.mk 0 k 0 0 nx) i c) st with
  | none=>rw [hx] at h; cases h
  | some y =>
   obtain ⟨b1,s2⟩ := y
   rw [hx] at h
   have h1 := hrec _ _ _ _ _ hx
   cases b1 with
   | true=>simp only [orR] at h; cases h; exact .altT h1
   | false=>simp only [orR] at h; exact .altF h1 (alt_evI l s2 st' b h)
theorem behind_evI {most : Int} {re kid : Re} {nx : Goal} {i : Int} {c : CapsL} {b : Bool} {st' : Sst} : ∀ (j : Nat) (st s2 : Sst) (ro : Option CapsL),st.empty=false→behindR (fun k st=>firstR rec (.mk 0 kid 0 0 (hereG i)) k c st) j st=some (ro,s2) →
  (if s2.empty then some (true,s2) else if re.neg=true then (match ro with | some _=>some (false,s2) | none=>rec most (.run nx i c) s2) else match ro with | some d=>rec most (.run nx i d) s2 | none=>some (false,s2))=some (b,st')→EvI t F most (.behind re kid nx i c j) st b st'
 | 0,st,s2,ro,he,hb,h=>by
  simp only [behindR] at hb
  cases hb
  rw [if_neg (by rw [he]; exact Bool.false_ne_true)] at h
  by_cases hn : re.neg=true
  ·rw [if_pos hn] at h; exact .bhNoNeg hn (hrec _ _ _ _ _ h)
  ·rw [if_neg hn] at h; cases h; exact .bhNo (by simpa using hn)
 | j + 1,st,s2,ro,he,hb,h=>by
  simp only [behindR] at hb
  rw [if_neg (by rw [he]; exact Bool.false_ne_true)] at hb
  cases hf : firstR rec (.mk 0 kid 0 0 (hereG i)) j c st with
  | none=>rw [hf] at hb; cases hb
  | some y =>
   obtain ⟨o,s3⟩ := y
   rw [hf] at hb
   obtain ⟨b1,x,k1,rfl,k2⟩ := firstR_inv hf
   have h1 := hrec _ _ _ _ _ k1
   rcases k2 with ⟨e1,rfl⟩ | ⟨e1,e2,rfl⟩ | ⟨e1,e,le,d,ld,e2,e3,rfl⟩
   ·have hae : (st.aft x).empty=true := e1
    simp only at hb
    have hb2 : (ro,s2)=(none,st.aft x) := by
     cases j with
     | zero=>simp only [behindR] at hb; exact (Option.some.inj hb).symm
     | succ j=>simp only [behindR] at hb; rw [if_pos hae] at hb; exact (Option.some.inj hb).symm
    cases hb2
    rw [if_pos hae] at h
    cases h
    exact .bhOut h1 e1
   ·simp only at hb
    exact .bhMore h1 e1 e2 (behind_evI j _ s2 ro e1 hb h)
   ·simp only at hb
    cases hb
    rw [if_neg (by show ¬ x.empty=true; rw [e1]; exact Bool.false_ne_true)] at h
    by_cases hn : re.neg=true
    ·rw [if_pos hn] at h; cases h; exact .bhYesNeg h1 e1 e2 e3 hn
    ·rw [if_neg hn] at h; exact .bhYes h1 e1 e2 e3 (by simpa using hn) (hrec _ _ _ _ _ h)
theorem body_evI {most : Int} {re : Re} {nx : Goal} {i : Int} {c : CapsL} {st st' : Sst} {b : Bool} (hse : st.empty=false) (h : nodeR t rec most re nx i c st=some (b,st')) : EvI t F most (.body re nx i c) st b st' := by
 unfold nodeR at h
 by_cases o1 : re.op=1
 ·rw [if_pos o1] at h
  by_cases hc : i < t.length∧inB re.set (tAt t i)=true
  ·rw [if_pos hc] at h; exact .setYes o1 hc.1 hc.2 (hrec _ _ _ _ _ h)
  ·rw [if_neg hc] at h; cases h; exact .setNo o1 hc
 rw [if_neg o1] at h
 by_cases o2 : re.op=2
 ·rw [if_pos o2] at h; exact .cat o2 (hrec _ _ _ _ _ h)
 rw [if_neg o2] at h
 by_cases o3 : re.op=3
 ·rw [if_pos o3] at h; exact .alt o3 (alt_evI hrec _ _ _ _ h)
 rw [if_neg o3] at h
 by_cases o5 : re.op=5
 ·rw [if_pos o5] at h
  cases hk : re.kids with
  | nil=>rw [hk] at h; cases h
  | cons k l=>rw [hk] at h; exact .cap o5 hk (hrec _ _ _ _ _ h)
 rw [if_neg o5] at h
 by_cases o6 : re.op=6
 ·rw [if_pos o6] at h
  simp only at h
  by_cases c1 : (spanR c re.n).1 < 0
  ·rw [if_pos c1] at h; cases h; exact .refNone o6 c1
  rw [if_neg c1] at h
  by_cases c2 : (spanR c re.n).2 < (spanR c re.n).1 ∨ (t.length : Int) < (spanR c re.n).2
  ·rw [if_pos c2] at h; cases h
  rw [if_neg c2] at h
  by_cases c3 : t.length < i + (spanR c re.n).2 - (spanR c re.n).1
  ·rw [if_pos c3] at h; cases h; exact .refLong o6 c1 (by omega) (by omega) c3
  rw [if_neg c3] at h
  by_cases c4 : sameR t (spanR c re.n).1 i ((spanR c re.n).2 - (spanR c re.n).1).toNat=true
  ·rw [if_pos c4] at h; exact .refYes o6 c1 (by omega) (by omega) c3 c4 (hrec _ _ _ _ _ h)
  ·rw [if_neg c4] at h; cases h; exact .refNo o6 c1 (by omega) (by omega) c3 (by simpa using c4)
 rw [if_neg o6] at h
 by_cases o7 : re.op=7 ∨ re.op=8
 ·rw [if_pos o7] at h
  cases hk : re.kids with
  | nil=>rw [hk] at h; cases h
  | cons k l =>
   rw [hk] at h
   simp only at h
   cases hx : lookR rec re.op k i c st with
   | none=>rw [hx] at h; cases h
   | some y =>
    obtain ⟨ro,s2⟩ := y
    rw [hx] at h
    simp only at h
    unfold lookR at hx
    by_cases p7 : re.op=7
    ·rw [if_pos p7] at hx
     cases hf : firstR rec (.mk 0 k 0 0 .nil) i c st with
     | none=>rw [hf] at hx; cases hx
     | some z =>
      obtain ⟨o,s3⟩ := z
      rw [hf] at hx
      cases hx
      obtain ⟨b1,x,k1,rfl,k2⟩ := firstR_inv hf
      have h1 := hrec _ _ _ _ _ k1
      rcases k2 with ⟨e1,rfl⟩ | ⟨e1,e2,rfl⟩ | ⟨e1,e,le,d,ld,e2,e3,rfl⟩
      ·rw [if_pos (show (st.aft x).empty=true from e1)] at h
       cases h
       exact .aheadOut p7 hk h1 e1
      ·rw [if_neg (by show ¬ x.empty=true; rw [e1]; exact Bool.false_ne_true)] at h
       by_cases hn : re.neg=true
       ·rw [if_pos hn] at h; exact .aheadNoNeg p7 hk h1 e1 e2 hn (hrec _ _ _ _ _ h)
       ·rw [if_neg hn] at h; cases h; exact .aheadNo p7 hk h1 e1 e2 (by simpa using hn)
      ·rw [if_neg (by show ¬ x.empty=true; rw [e1]; exact Bool.false_ne_true)] at h
       by_cases hn : re.neg=true
       ·rw [if_pos hn] at h; cases h; exact .aheadYesNeg p7 hk h1 e1 e2 e3 hn
       ·rw [if_neg hn] at h; exact .aheadYes p7 hk h1 e1 e2 e3 (by simpa using hn) (hrec _ _ _ _ _ h)
    ·rw [if_neg p7] at hx
     exact .behind (by omega) hk hse (behind_evI hrec _ _ _ _ hse hx h)
 rw [if_neg o7] at h
 by_cases o9 : re.op=9
 ·rw [if_pos o9] at h
  cases hk : re.kids with
  | nil=>rw [hk] at h; cases h
  | cons k l =>
   rw [hk] at h
   simp only at h
   cases hf : firstR rec (.mk 0 k 0 0 .nil) i c st with
   | none=>rw [hf] at h; cases h
   | some z =>
    obtain ⟨o,s3⟩ := z
    rw [hf] at h
    simp only at h
    obtain ⟨b1,x,k1,rfl,k2⟩ := firstR_inv hf
    have h1 := hrec _ _ _ _ _ k1
    rcases k2 with ⟨e1,rfl⟩ | ⟨e1,e2,rfl⟩ | ⟨e1,e,le,d,ld,e2,e3,rfl⟩
    ·rw [if_pos (show (st.aft x).empty=true from e1)] at h
     cases h
     exact .atomOut o9 hk h1 e1
    ·rw [if_neg (by show ¬ x.empty=true; rw [e1]; exact Bool.false_ne_true)] at h
     cases h
     exact .atomNo o9 hk h1 e1 e2
    ·rw [if_neg (by show ¬ x.empty=true; rw [e1]; exact Bool.false_ne_true)] at h
     exact .atomYes o9 hk h1 e1 e2 e3 (hrec _ _ _ _ _ h)
 rw [if_neg o9] at h
 by_cases o10 : re.op=10
 ·rw [if_pos o10] at h
  match hk : re.kids with
  | []=>rw [hk] at h; cases h
  | [_]=>rw [hk] at h; cases h
  | yes :: no :: l=>rw [hk] at h; exact .cond o10 hk (hrec _ _ _ _ _ h)
 rw [if_neg o10] at h
 by_cases o11 : re.op=11
 ·rw [if_pos o11] at h
  by_cases q : holdsR re.n t i=true
  ·rw [if_pos q] at h; exact .assertYes o11 q (hrec _ _ _ _ _ h)
  ·rw [if_neg q] at h; cases h; exact .assertNo o11 (by simpa using q)
 rw [if_neg o11] at h
 exact .empty (by simp; omega) (hrec _ _ _ _ _ h)
theorem rep_evI {most : Int} {re : Re} {k : Int} {nx : Goal} {i : Int} {c : CapsL} {st st' : Sst} {b : Bool} (h : repR F rec most re k nx i c st=some (b,st')) : EvI t F most (.rep re k nx i c) st b st' := by
 unfold repR at h
 by_cases hm : re.mode=2
 ·rw [if_pos hm] at h
  cases hf : firstR rec (.mk 1 (re.setMode 0) 0 0 .nil) i c st with
  | none=>rw [hf] at h; cases h
  | some z =>
   obtain ⟨o,s3⟩ := z
   rw [hf] at h
   simp only at h
   obtain ⟨b1,x,k1,rfl,k2⟩ := firstR_inv hf
   have h1 := hrec _ _ _ _ _ k1
   rcases k2 with ⟨e1,rfl⟩ | ⟨e1,e2,rfl⟩ | ⟨e1,e,le,d,ld,e2,e3,rfl⟩
   ·simp only at h
    obtain ⟨rfl,rfl⟩ := Prod.mk.inj (Option.some.inj h)
    have := EvI.possOut (most := most) (k := k) (nx := nx) hm h1 e1
    rwa [← show (st.aft x).empty=true from e1] at this
   ·simp only at h
    obtain ⟨rfl,rfl⟩ := Prod.mk.inj (Option.some.inj h)
    have := EvI.possNo (most := most) (k := k) (nx := nx) hm h1 e1 e2
    rwa [← show (st.aft x).empty=false from e1] at this
   ·simp only at h
    exact .possYes hm h1 e1 e2 e3 (hrec _ _ _ _ _ h)
 rw [if_neg hm] at h
 by_cases hs : st.steps < 0 ∨ 10000000000000 < st.steps
 ·rw [if_pos hs] at h; cases h
 rw [if_neg hs] at h
 simp only at h
 have hs0 : 0≤st.steps := by omega
 by_cases he : (st.step F).empty=true
 ·rw [if_pos he] at h; cases h; exact .repOut hm hs0 he
 rw [if_neg he] at h
 have he : (st.step F).empty=false := by simpa using he
 cases hk : re.kids with
 | nil=>rw [hk] at h; cases h
 | cons kid l =>
  rw [hk] at h
  simp only at h
  by_cases c2 : k < re.mn
  ·rw [if_pos c2] at h; exact .repMin hm hs0 he hk c2 (hrec _ _ _ _ _ h)
  rw [if_neg c2] at h
  by_cases m1 : re.mode=1
  ·rw [if_pos m1] at h
   cases hx : rec most (.run nx i c) (st.step F) with
   | none=>rw [hx] at h; cases h
   | some y =>
    obtain ⟨b1,s2⟩ := y
    rw [hx] at h
    have h1 := hrec _ _ _ _ _ hx
    by_cases cM : re.mx=-1 ∨ k < re.mx
    ·cases b1 with
     | true=>simp only [orR] at h; cases h; exact .lazyT m1 hs0 he hk c2 cM h1
     | false=>simp only [orR] at h; rw [if_pos cM] at h; exact .lazyF m1 hs0 he hk c2 cM h1 (hrec _ _ _ _ _ h)
    ·cases b1 with
     | true=>simp only [orR] at h; cases h; exact .repMax hm hs0 he hk c2 cM h1
     | false=>simp only [orR] at h; rw [if_neg cM] at h; cases h; exact .repMax hm hs0 he hk c2 cM h1
  ·rw [if_neg m1] at h
   by_cases cM : re.mx=-1 ∨ k < re.mx
   ·rw [if_pos cM] at h
    cases hx : rec most (.run (.mk 0 kid 0 0 (.mk 2 re k i nx)) i c) (st.step F) with
    | none=>rw [hx] at h; cases h
    | some y =>
     obtain ⟨b1,s2⟩ := y
     rw [hx] at h
     have h1 := hrec _ _ _ _ _ hx
     cases b1 with
     | true=>simp only [orR] at h; cases h; exact .moreT hm m1 hs0 he hk c2 cM h1
     | false=>simp only [orR] at h; exact .moreF hm m1 hs0 he hk c2 cM h1 (hrec _ _ _ _ _ h)
   ·rw [if_neg cM] at h
    simp only [orR] at h
    exact .repMax hm hs0 he hk c2 cM (hrec _ _ _ _ _ h)
end conv
theorem evI_of {t : List Int} {F : Int} : ∀ (n : Nat) (most : Int) (task : Task) (st : Sst) (b : Bool) (st' : Sst),evR t F n most task st=some (b,st')→EvI t F most task.e st b st'
 | 0,_,_,_,_,_,h=>by cases h
 | n + 1,most,task,st,b,st',h=>by
  have hrec := evI_of (t := t) (F := F) n
  replace h : evStep t F (evR t F n) most task st=some (b,st') := h
  cases task with
  | run g i c =>
   simp only [evStep] at h
   split at h
   ·cases h
   rename_i hi
   have h0 : 0≤i := by omega
   have h1 : i≤t.length := by omega
   cases g with
   | nil =>
    simp only at h
    split at h
    ·rename_i hl
     obtain ⟨rfl,rfl⟩ := Prod.mk.inj (Option.some.inj h)
     exact .found h0 h1 hl.2 hl.1
    ·cases h
   | mk kind re k f nx =>
    simp only at h
    by_cases k1 : kind=1
    ·rw [if_pos k1] at h; subst k1; exact .goRep h0 h1 (hrec _ _ _ _ _ h)
    rw [if_neg k1] at h
    by_cases k2 : kind=2
    ·rw [if_pos k2] at h; subst k2
     by_cases q : re.mn≤k∧i=f
     ·rw [if_pos q] at h; cases h; exact .stay h0 h1 q.1 q.2
     rw [if_neg q] at h
     split at h
     ·cases h
     exact .iter h0 h1 q (by omega) (by omega) (hrec _ _ _ _ _ h)
    rw [if_neg k2] at h
    by_cases k3 : kind=3
    ·rw [if_pos k3] at h; subst k3
     split at h
     ·cases h
     exact .save h0 h1 (hrec _ _ _ _ _ h)
    rw [if_neg k3] at h
    by_cases k4 : kind=4
    ·rw [if_pos k4] at h; subst k4
     by_cases q : i=f
     ·rw [if_pos q] at h; exact .here h0 h1 q (hrec _ _ _ _ _ h)
     ·rw [if_neg q] at h; cases h; exact .gone h0 h1 q
    rw [if_neg k4] at h
    exact .tree k1 k2 k3 k4 h0 h1 (hrec _ _ _ _ _ h)
  | rep g i c =>
   simp only [evStep] at h
   split at h
   ·cases h
   cases g with
   | nil=>cases h
   | mk kind re k f nx=>exact rep_evI hrec h
  | node g i c =>
   simp only [evStep] at h
   split at h
   ·cases h
   rename_i hi
   cases g with
   | nil=>cases h
   | mk kind re k f nx =>
    simp only at h
    by_cases o4 : re.op=4
    ·rw [if_pos o4] at h; exact .nodeRep o4 (by omega) (by omega) (hrec _ _ _ _ _ h)
    rw [if_neg o4] at h
    split at h
    ·cases h
    split at h
    ·cases h
    rename_i hs
    have hs0 : 0≤st.steps := by omega
    by_cases he : (st.step F).empty=true
    ·rw [if_pos he] at h; cases h; exact .nodeOut o4 hs0 he
    ·rw [if_neg he] at h
     have he : (st.step F).empty=false := by simpa using he
     exact .node o4 hs0 he (body_evI hrec he h)
theorem EvI.steps {t : List Int} {F most : Int} {task : ETask} {st st' : Sst} {b : Bool} (h : EvI t F most task st b st') : st.steps≤st'.steps := by
 induction h <;> (try simp only [Sst.sub,Sst.aft,Sst.step] at *) <;> omega
theorem EvI.full {t : List Int} {F most : Int} {task : ETask} {st st' : Sst} {b : Bool} (h : EvI t F most task st b st') : st.empty=false→b=false→st'.empty=false := by
 induction h with
 | found=>exact fun h _=>h
 | tree _ _ _ _ _ _ _ ih=>exact ih
 | goRep _ _ _ ih=>exact ih
 | stay=>exact fun h _=>h
 | iter _ _ _ _ _ _ ih=>exact ih
 | save _ _ _ ih=>exact ih
 | here _ _ _ _ ih=>exact ih
 | gone=>exact fun h _=>h
 | possOut=>exact fun _ h=>by cases h
 | possNo _ _ hx=>exact fun _ _=>hx
 | possYes _ _ hx _ _ _ _ ih2=>exact fun _ hb=>ih2 hx hb
 | repOut=>exact fun _ h=>by cases h
 | repMin _ _ he _ _ _ ih=>exact fun _ hb=>ih he hb
 | repMax _ _ he _ _ _ _ ih=>exact fun _ hb=>ih he hb
 | lazyT=>exact fun _ h=>by cases h
 | lazyF _ _ he _ _ _ _ _ ih ih2=>exact fun _ hb=>ih2 (ih he rfl) hb
 | moreT=>exact fun _ h=>by cases h
 | moreF _ _ _ he _ _ _ _ _ ih ih2=>exact fun _ hb=>ih2 (ih he rfl) hb
 | nodeRep _ _ _ _ ih=>exact ih
 | nodeOut=>exact fun _ h=>by cases h
 | node _ _ he _ ih=>exact fun _ hb=>ih he hb
 | empty _ _ ih=>exact ih
 | setYes _ _ _ _ ih=>exact ih
 | setNo=>exact fun h _=>h
 | cat _ _ ih=>exact ih
 | alt _ _ ih=>exact ih
 | altNil=>exact fun h _=>h
 | altT=>exact fun _ h=>by cases h
 | altF _ _ ih ih2=>exact fun h hb=>ih2 (ih h rfl) hb
 | cap _ _ _ ih=>exact ih
 | refNone=>exact fun h _=>h
 | refLong=>exact fun h _=>h
 | refYes _ _ _ _ _ _ _ ih=>exact ih
 | refNo=>exact fun h _=>h
 | aheadOut=>exact fun _ h=>by cases h
 | aheadNo _ _ _ hx=>exact fun _ _=>hx
 | aheadNoNeg _ _ _ hx _ _ _ _ ih2=>exact fun _ hb=>ih2 hx hb
 | aheadYes _ _ _ hx _ _ _ _ _ ih2=>exact fun _ hb=>ih2 hx hb
 | aheadYesNeg _ _ _ hx=>exact fun _ _=>hx
 | behind _ _ _ _ ih=>exact ih
 | bhNo=>exact fun h _=>h
 | bhNoNeg _ _ ih=>exact ih
 | bhOut=>exact fun _ h=>by cases h
 | bhYes _ hx _ _ _ _ _ ih2=>exact fun _ hb=>ih2 hx hb
 | bhYesNeg _ hx=>exact fun _ _=>hx
 | bhMore _ hx _ _ _ ih2=>exact fun _ hb=>ih2 hx hb
 | atomOut=>exact fun _ h=>by cases h
 | atomNo _ _ _ hx=>exact fun _ _=>hx
 | atomYes _ _ _ hx _ _ _ _ ih2=>exact fun _ hb=>ih2 hx hb
 | cond _ _ _ ih=>exact ih
 | assertYes _ _ _ ih=>exact ih
 | assertNo=>exact fun h _=>h
def Ext (st st' : Sst) : Prop := ∃ new newc,st'.ends=st.ends ++ new∧st'.caps=st.caps ++ newc∧newc.length=new.length
theorem Ext.refl (st : Sst) : Ext st st := ⟨[],[],by simp,by simp,rfl⟩
theorem Ext.trans {a b c : Sst} (h : Ext a b) (k : Ext b c) : Ext a c := by
 obtain ⟨n1,m1,a1,a2,a3⟩ := h
 obtain ⟨n2,m2,b1,b2,b3⟩ := k
 exact ⟨n1 ++ n2,m1 ++ m2,by rw [b1,a1,List.append_assoc],by rw [b2,a2,List.append_assoc],by rw [List.length_append,List.length_append,a3,b3]⟩
theorem EvI.all {t : List Int} {F most : Int} {task : ETask} {st st' : Sst} {b : Bool} (h : EvI t F most task st b st') : most=-1→st.empty=false→st'.empty=false→b=false∧Ext st st' := by
 induction h with
 | found =>
  intro hm _ _
  subst hm
  exact ⟨by simp,⟨_,_,rfl,rfl,rfl⟩⟩
 | tree _ _ _ _ _ _ _ ih=>exact ih
 | goRep _ _ _ ih=>exact ih
 | stay=>exact fun _ _ _=>⟨rfl,.refl _⟩
 | iter _ _ _ _ _ _ ih=>exact ih
 | save _ _ _ ih=>exact ih
 | here _ _ _ _ ih=>exact ih
 | gone=>exact fun _ _ _=>⟨rfl,.refl _⟩
 | possOut _ _ hx=>exact fun _ _ h=>absurd (h.symm.trans hx) Bool.false_ne_true
 | possNo=>exact fun _ _ _=>⟨rfl,.refl _⟩
 | possYes _ _ hx _ _ _ _ ih2=>exact fun hm _ he=>ih2 hm hx he
 | repOut _ _ he=>exact fun _ _ h=>absurd (h.symm.trans he) Bool.false_ne_true
 | repMin _ _ he _ _ _ ih=>exact fun hm _ h=>ih hm he h
 | repMax _ _ he _ _ _ _ ih=>exact fun hm _ h=>ih hm he h
 | lazyT _ _ he _ _ _ _ ih=>exact fun hm _ h=>absurd (ih hm he h).1 (by decide)
 | lazyF _ _ he _ _ _ h1 _ ih ih2 =>
  intro hm _ h
  have he2 := h1.full he rfl
  have a := ih hm he he2
  have b := ih2 hm he2 h
  exact ⟨b.1,a.2.trans b.2⟩
 | moreT _ _ _ he _ _ _ _ ih=>exact fun hm _ h=>absurd (ih hm he h).1 (by decide)
 | moreF _ _ _ he _ _ _ h1 _ ih ih2 =>
  intro hm _ h
  have he2 := h1.full he rfl
  have a := ih hm he he2
  have b := ih2 hm he2 h
  exact ⟨b.1,a.2.trans b.2⟩
 | nodeRep _ _ _ _ ih=>exact ih
 | nodeOut _ _ he=>exact fun _ _ h=>absurd (h.symm.trans he) Bool.false_ne_true
 | node _ _ he _ ih=>exact fun hm _ h=>ih hm he h
 | empty _ _ ih=>exact ih
 | setYes _ _ _ _ ih=>exact ih
 | setNo=>exact fun _ _ _=>⟨rfl,.refl _⟩
 | cat _ _ ih=>exact ih
 | alt _ _ ih=>exact ih
 | altNil=>exact fun _ _ _=>⟨rfl,.refl _⟩
 | altT _ ih=>exact fun hm h1 h=>absurd (ih hm h1 h).1 (by decide)
 | altF h1 _ ih ih2 =>
  intro hm he h
  have he2 := h1.full he rfl
  have a := ih hm he he2
  have b := ih2 hm he2 h
  exact ⟨b.1,a.2.trans b.2⟩
 | cap _ _ _ ih=>exact ih
 | refNone=>exact fun _ _ _=>⟨rfl,.refl _⟩
 | refLong=>exact fun _ _ _=>⟨rfl,.refl _⟩
 | refYes _ _ _ _ _ _ _ ih=>exact ih
 | refNo=>exact fun _ _ _=>⟨rfl,.refl _⟩
 | aheadOut _ _ _ hx=>exact fun _ _ h=>absurd (h.symm.trans hx) Bool.false_ne_true
 | aheadNo=>exact fun _ _ _=>⟨rfl,.refl _⟩
 | aheadNoNeg _ _ _ hx _ _ _ _ ih2=>exact fun hm _ h=>ih2 hm hx h
 | aheadYes _ _ _ hx _ _ _ _ _ ih2=>exact fun hm _ h=>ih2 hm hx h
 | aheadYesNeg=>exact fun _ _ _=>⟨rfl,.refl _⟩
 | behind _ _ _ _ ih=>exact ih
 | bhNo=>exact fun _ _ _=>⟨rfl,.refl _⟩
 | bhNoNeg _ _ ih=>exact ih
 | bhOut _ hx=>exact fun _ _ h=>absurd (h.symm.trans hx) Bool.false_ne_true
 | bhYes _ hx _ _ _ _ _ ih2=>exact fun hm _ h=>ih2 hm hx h
 | bhYesNeg=>exact fun _ _ _=>⟨rfl,.refl _⟩
 | bhMore _ hx _ _ _ ih2=>exact fun hm _ h=>ih2 hm hx h
 | atomOut _ _ _ hx=>exact fun _ _ h=>absurd (h.symm.trans hx) Bool.false_ne_true
 | atomNo=>exact fun _ _ _=>⟨rfl,.refl _⟩
 | atomYes _ _ _ hx _ _ _ _ ih2=>exact fun hm _ h=>ih2 hm hx h
 | cond _ _ _ ih=>exact ih
 | assertYes _ _ _ ih=>exact ih
 | assertNo=>exact fun _ _ _=>⟨rfl,.refl _⟩
inductive Shape (t : List Int) (rec : Int→Task→Sst→Option (Bool × Sst)) (X : Int→Option (Bool × Sst)) (st : Sst) : Prop where
 | over (b : Bool) (s : Sst) (h : ∀ m,X m=some (b,s)) (he : b=s.empty) (h1 : s.ends=st.ends) (h2 : s.caps=st.caps)
 | on (task : Task) (s : Sst) (h : ∀ m,X m=rec m task s) (he : s.empty=false) (h1 : s.ends=st.ends) (h2 : s.caps=st.caps)
 | alts (l : List Re) (nx : Goal) (i : Int) (c : CapsL) (h : ∀ m,X m=altR (fun k st=>rec m (.run (.mk 0 k 0 0 nx) i c) st) l st)
theorem first_shape {rec : Int→Task→Sst→Option (Bool × Sst)} {g : Goal} {i : Int} {c : CapsL} {st s2 : Sst} {o : Option (Int × CapsL)} (h : firstR rec g i c st=some (o,s2)) : s2.ends=st.ends∧s2.caps=st.caps∧(s2.empty=true→o=none) := by
 obtain ⟨b,x,_,rfl,h3⟩ := firstR_inv h
 refine ⟨rfl,rfl,fun he=>?_⟩
 rcases h3 with ⟨_,h⟩ | ⟨_,_,h⟩ | ⟨hx,_⟩
 ·exact h
 ·exact h
 ·rw [show x.empty=true from he] at hx; cases hx
theorem behind_shape {f : Int→Sst→Option (Option (Int × CapsL) × Sst)} (hf : ∀ k st o s2,f k st=some (o,s2)→s2.ends=st.ends∧s2.caps=st.caps) : ∀ (j : Nat) (st s2 : Sst) (r : Option CapsL),behindR f j st=some (r,s2)→s2.ends=st.ends∧s2.caps=st.caps
 | 0,st,s2,r,h=>by simp only [behindR] at h; cases h; exact ⟨rfl,rfl⟩
 | j + 1,st,s2,r,h=>by
  simp only [behindR] at h
  split at h
  ·cases h; exact ⟨rfl,rfl⟩
  ·cases hx : f j st with
   | none=>rw [hx] at h; cases h
   | some y =>
    obtain ⟨o,s3⟩ := y
    rw [hx] at h
    have h1 := hf _ _ _ _ hx
    cases o with
    | none =>
     simp only at h
     have h2 := behind_shape hf j s3 s2 r h
     exact ⟨h2.1.trans h1.1,h2.2.trans h1.2⟩
    | some z=>simp only at h; cases h; exact h1
theorem node_shape {t : List Int} {rec : Int→Task→Sst→Option (Bool × Sst)} {most : Int} {re : Re} {nx : Goal} {i : Int} {c : CapsL} {st : Sst} {r : Bool × Sst} (he : st.empty=false) (h : nodeR t rec most re nx i c st=some r) : Shape t rec (fun m=>nodeR t rec m re nx i c st) st := by
 unfold nodeR at h ⊢
 by_cases o1 : re.op=1
 ·simp only [if_pos o1] at h ⊢
  by_cases hc : i < t.length∧inB re.set (tAt t i)=true
  ·simp only [if_pos hc]; exact .on _ st (fun _=>rfl) he rfl rfl
  ·simp only [if_neg hc]; exact .over false st (fun _=>rfl) he.symm rfl rfl
 simp only [if_neg o1] at h ⊢
 by_cases o2 : re.op=2
 ·simp only [if_pos o2]; exact .on _ st (fun _=>rfl) he rfl rfl
 simp only [if_neg o2] at h ⊢
 by_cases o3 : re.op=3
 ·simp only [if_pos o3]; exact .alts _ _ _ _ (fun _=>rfl)
 simp only [if_neg o3] at h ⊢
 by_cases o5 : re.op=5
 ·simp only [if_pos o5] at h ⊢
  cases hk : re.kids with
  | nil=>rw [hk] at h; cases h
  | cons k l=>exact .on _ st (fun _=>rfl) he rfl rfl
 simp only [if_neg o5] at h ⊢
 by_cases o6 : re.op=6
 ·simp only [if_pos o6] at h ⊢
  by_cases c1 : (spanR c re.n).1 < 0
  ·simp only [if_pos c1]; exact .over false st (fun _=>rfl) he.symm rfl rfl
  simp only [if_neg c1] at h ⊢
  by_cases c2 : (spanR c re.n).2 < (spanR c re.n).1 ∨ (t.length : Int) < (spanR c re.n).2
  ·rw [if_pos c2] at h; cases h
  simp only [if_neg c2] at h ⊢
  by_cases c3 : t.length < i + (spanR c re.n).2 - (spanR c re.n).1
  ·simp only [if_pos c3]; exact .over false st (fun _=>rfl) he.symm rfl rfl
  simp only [if_neg c3] at h ⊢
  by_cases c4 : sameR t (spanR c re.n).1 i ((spanR c re.n).2 - (spanR c re.n).1).toNat=true
  ·simp only [if_pos c4]; exact .on _ st (fun _=>rfl) he rfl rfl
  ·simp only [if_neg c4]; exact .over false st (fun _=>rfl) he.symm rfl rfl
 simp only [if_neg o6] at h ⊢
 by_cases o7 : re.op=7 ∨ re.op=8
 ·simp only [if_pos o7] at h ⊢
  cases hk : re.kids with
  | nil=>rw [hk] at h; cases h
  | cons k l =>
   rw [hk] at h
   simp only at h ⊢
   cases hx : lookR rec re.op k i c st with
   | none=>rw [hx] at h; cases h
   | some y =>
    obtain ⟨ro,s2⟩ := y
    have hs2 : s2.ends=st.ends∧s2.caps=st.caps := by
     unfold lookR at hx
     split at hx
     ·cases hf : firstR rec (.mk 0 k 0 0 .nil) i c st with
      | none=>rw [hf] at hx; cases hx
      | some z =>
       obtain ⟨o,s3⟩ := z
       rw [hf] at hx
       cases hx
       exact ⟨(first_shape hf).1,(first_shape hf).2.1⟩
     ·exact behind_shape (fun k st o s2 h=>⟨(first_shape h).1,(first_shape h).2.1⟩) _ _ _ _ hx
    simp only
    by_cases e2 : s2.empty=true
    ·simp only [if_pos e2]; exact .over true s2 (fun _=>rfl) e2.symm hs2.1 hs2.2
    have e2' : s2.empty=false := by simpa using e2
    simp only [if_neg e2]
    by_cases hn : re.neg=true
    ·simp only [if_pos hn]
     cases ro with
     | none=>exact .on _ s2 (fun _=>rfl) e2' hs2.1 hs2.2
     | some d=>exact .over false s2 (fun _=>rfl) e2'.symm hs2.1 hs2.2
    ·simp only [if_neg hn]
     cases ro with
     | none=>exact .over false s2 (fun _=>rfl) e2'.symm hs2.1 hs2.2
     | some d=>exact .on _ s2 (fun _=>rfl) e2' hs2.1 hs2.2
 simp only [if_neg o7] at h ⊢
 by_cases o9 : re.op=9
 ·simp only [if_pos o9] at h ⊢
  cases hk : re.kids with
  | nil=>rw [hk] at h; cases h
  | cons k l =>
   rw [hk] at h
   simp only at h ⊢
   cases hf : firstR rec (.mk 0 k 0 0 .nil) i c st with
   | none=>rw [hf] at h; cases h
   | some z =>
    obtain ⟨o,s2⟩ := z
    obtain ⟨f1,f2,_⟩ := first_shape hf
    simp only
    by_cases e2 : s2.empty=true
    ·simp only [if_pos e2]; exact .over true s2 (fun _=>rfl) e2.symm f1 f2
    have e2' : s2.empty=false := by simpa using e2
    simp only [if_neg e2]
    cases o with
    | none=>exact .over false s2 (fun _=>rfl) e2'.symm f1 f2
    | some x=>exact .on _ s2 (fun _=>rfl) e2' f1 f2
 simp only [if_neg o9] at h ⊢
 by_cases o10 : re.op=10
 ·simp only [if_pos o10] at h ⊢
  match hk : re.kids with
  | []=>rw [hk] at h; cases h
  | [_]=>rw [hk] at h; cases h
  | yes :: no :: l=>exact .on _ st (fun _=>rfl) he rfl rfl
 simp only [if_neg o10] at h ⊢
 by_cases o11 : re.op=11
 ·simp only [if_pos o11] at h ⊢
  by_cases q : holdsR re.n t i=true
  ·simp only [if_pos q]; exact .on _ st (fun _=>rfl) he rfl rfl
  ·simp only [if_neg q]; exact .over false st (fun _=>rfl) he.symm rfl rfl
 simp only [if_neg o11] at h ⊢
 exact .on _ st (fun _=>rfl) he rfl rfl
def Pfx (N : Nat) (st' : Sst) (o : Option (Bool × Sst)) : Prop :=
 (st'.ends.length < N∧o=some (false,st')) ∨ (N≤st'.ends.length∧∃ s2,o=some (true,s2)∧s2.empty=false∧s2.steps≤st'.steps∧s2.ends=st'.ends.take N∧s2.caps=st'.caps.take N)
theorem take_ext {α : Type} {l new : List α} {N : Nat} (h : N≤l.length) : (l ++ new).take N=l.take N := by rw [List.take_append_of_le_length h]
theorem pfx_or {N : Nat} {a a' : Option (Bool × Sst)} {k k' : Sst→Option (Bool × Sst)} {st st' : Sst} {b : Bool} (hcap : st.caps.length=st.ends.length) (he0 : st.empty=false)
  (ha0 : ∀ b1 s1,a=some (b1,s1)→s1.empty=false→b1=false∧Ext st s1) (hfull : ∀ s1,a=some (false,s1)→s1.empty=false) (ha : ∀ s1,a=some (false,s1)→s1.empty=false→Pfx N s1 a')
  (hk0 : ∀ s1 b2 s2,k s1=some (b2,s2)→s1.empty=false→s2.empty=false→b2=false∧Ext s1 s2∧s1.steps≤s2.steps)
  (hk : ∀ s1 s2,k s1=some (false,s2)→s1.empty=false→s2.empty=false→s1.ends.length < N→s1.caps.length=s1.ends.length→Pfx N s2 (k' s1)) (h : orR a k=some (b,st')) (he : st'.empty=false) : Pfx N st' (orR a' k') := by
 cases hx : a with
 | none=>rw [hx] at h; cases h
 | some y =>
  obtain ⟨b1,s1⟩ := y
  rw [hx] at h
  cases b1 with
  | true =>
   simp only [orR] at h
   obtain ⟨rfl,rfl⟩ := Prod.mk.inj (Option.some.inj h)
   exact absurd (ha0 _ _ hx he).1 (by decide)
  | false =>
   simp only [orR] at h
   have he1 := hfull _ hx
   obtain ⟨_,new,newc,n1,n2,n3⟩ := ha0 _ _ hx he1
   have hcap1 : s1.caps.length=s1.ends.length := by rw [n1,n2,List.length_append,List.length_append,n3,hcap]
   obtain ⟨rfl,⟨new',newc',m1,m2,m3⟩,hst⟩ := hk0 _ _ _ h he1 he
   rcases ha _ hx he1 with ⟨c1,c2⟩ | ⟨c1,s2,c2,c3,c4,c5,c6⟩
   ·rw [c2]
    simp only [orR]
    exact hk _ _ h he1 he c1 hcap1
   ·rw [c2]
    simp only [orR]
    exact .inr ⟨by rw [m1,List.length_append]; omega,s2,rfl,c3,by omega,by rw [c5,m1,take_ext c1],by rw [c6,m2,take_ext (by omega)]⟩
section pfx
variable {t : List Int} {F : Int} {N : Nat} {rec : Int→Task→Sst→Option (Bool × Sst)} (hrec : ∀ task st b st',rec (-1) task st=some (b,st')→st.empty=false→st'.empty=false→st.ends.length < N→st.caps.length=st.ends.length→Pfx N st' (rec N task st)) (hev : ∀ most task st b st',rec most task st=some (b,st')→EvI t F most task.e st b st')
include hrec hev
theorem pfx_alt {nx : Goal} {i : Int} {c : CapsL} : ∀ (l : List Re) (st st' : Sst) (b : Bool),altR (fun k st=>rec (-1) (.run (.mk 0 k 0 0 nx) i c) st) l st=some (b,st')→st.empty=false→st'.empty=false→st.ends.length < N→st.caps.length=st.ends.length →
  Pfx N st' (altR (fun k st=>rec N (.run (.mk 0 k 0 0 nx) i c) st) l st)
 | [],st,st',b,h,he,he',hN,hc=>by
  simp only [altR] at h ⊢
  obtain ⟨_,rfl⟩ := Prod.mk.inj (Option.some.inj h)
  exact .inl ⟨hN,rfl⟩
 | kid :: l,st,st',b,h,he,he',hN,hc=>by
  simp only [altR] at h ⊢
  refine pfx_or hc he (fun b1 s1 hx h1=>(hev _ _ _ _ _ hx).all rfl he h1) (fun s1 hx=>(hev _ _ _ _ _ hx).full he rfl) (fun s1 hx h1=>hrec _ _ _ _ hx he h1 hN hc) (fun s1 b2 s2 hx h1 h2=>?_) (fun s1 s2 hx h1 h2 h3 h4=>pfx_alt l s1 s2 false hx h1 h2 h3 h4) h he'
  have hE := alt_evI (t := t) (F := F) (fun most task st b st' h=>hev most task st b st' h) l s1 s2 b2 hx
  exact ⟨(hE.all rfl h1 h2).1,(hE.all rfl h1 h2).2,hE.steps⟩
theorem pfx_node {re : Re} {nx : Goal} {i : Int} {c : CapsL} {st st' : Sst} {b : Bool} (h : nodeR t rec (-1) re nx i c st=some (b,st')) (he : st.empty=false) (he' : st'.empty=false) (hN : st.ends.length < N) (hc : st.caps.length=st.ends.length) : Pfx N st' (nodeR t rec N re nx i c st) := by
 cases node_shape he h with
 | over b0 s hX hb h1 h2 =>
  rw [hX (-1)] at h
  obtain ⟨rfl,rfl⟩ := Prod.mk.inj (Option.some.inj h)
  rw [hX N]
  rw [he'] at hb
  subst hb
  exact .inl ⟨by rw [h1]; exact hN,rfl⟩
 | on task s hX hs h1 h2 =>
  rw [hX (-1)] at h
  rw [hX N]
  exact hrec _ _ _ _ h hs he' (by rw [h1]; exact hN) (by rw [h1,h2]; exact hc)
 | alts l nx i c hX =>
  rw [hX (-1)] at h
  rw [hX N]
  exact pfx_alt hrec hev l st st' b h he he' hN hc
theorem pfx_rep {re : Re} {k : Int} {nx : Goal} {i : Int} {c : CapsL} {st st' : Sst} {b : Bool} (h : repR F rec (-1) re k nx i c st=some (b,st')) (he : st.empty=false) (he' : st'.empty=false) (hN : st.ends.length < N) (hc : st.caps.length=st.ends.length) : Pfx N st' (repR F rec N re k nx i c st) := by
 unfold repR at h ⊢
 by_cases hm : re.mode=2
 ·simp only [if_pos hm] at h ⊢
  cases hf : firstR rec (.mk 1 (re.setMode 0) 0 0 .nil) i c st with
  | none=>rw [hf] at h; cases h
  | some z =>
   obtain ⟨o,s3⟩ := z
   rw [hf] at h
   obtain ⟨f1,f2,f3⟩ := first_shape hf
   simp only at h ⊢
   cases o with
   | none =>
    simp only at h ⊢
    obtain ⟨rfl,rfl⟩ := Prod.mk.inj (Option.some.inj h)
    rw [he']
    exact .inl ⟨by rw [f1]; exact hN,rfl⟩
   | some x =>
    obtain ⟨e,d⟩ := x
    simp only at h ⊢
    have hs3 : s3.empty=false := by
     cases hh : s3.empty with
     | false=>rfl
     | true=>cases f3 hh
    exact hrec _ _ _ _ h hs3 he' (by rw [f1]; exact hN) (by rw [f1,f2]; exact hc)
 simp only [if_neg hm] at h ⊢
 by_cases hs : st.steps < 0 ∨ 10000000000000 < st.steps
 ·rw [if_pos hs] at h; cases h
 simp only [if_neg hs] at h ⊢
 by_cases hse : (st.step F).empty=true
 ·rw [if_pos hse] at h; cases h; rw [hse] at he'; cases he'
 simp only [if_neg hse] at h ⊢
 have hse : (st.step F).empty=false := by simpa using hse
 have hN1 : (st.step F).ends.length < N := hN
 have hc1 : (st.step F).caps.length=(st.step F).ends.length := hc
 cases hk : re.kids with
 | nil=>rw [hk] at h; cases h
 | cons kid l =>
  rw [hk] at h
  simp only at h ⊢
  have one : ∀ {task : Task} {s1 s2 : Sst} {b2 : Bool},rec (-1) task s1=some (b2,s2)→s1.empty=false→s2.empty=false→b2=false∧Ext s1 s2∧s1.steps≤s2.steps := fun hx h1 h2=>by
   have hE := hev _ _ _ _ _ hx
   exact ⟨(hE.all rfl h1 h2).1,(hE.all rfl h1 h2).2,hE.steps⟩
  by_cases c2 : k < re.mn
  ·simp only [if_pos c2] at h ⊢
   exact hrec _ _ _ _ h hse he' hN1 hc1
  simp only [if_neg c2] at h ⊢
  by_cases m1 : re.mode=1
  ·simp only [if_pos m1] at h ⊢
   by_cases cM : re.mx=-1 ∨ k < re.mx
   ·simp only [if_pos cM] at h ⊢
    exact pfx_or hc1 hse (fun b1 s1 hx h1=>⟨(one hx hse h1).1,(one hx hse h1).2.1⟩) (fun s1 hx=>(hev _ _ _ _ _ hx).full hse rfl) (fun s1 hx h1=>hrec _ _ _ _ hx hse h1 hN1 hc1) (fun s1 b2 s2 hx h1 h2=>one hx h1 h2) (fun s1 s2 hx h1 h2 h3 h4=>hrec _ _ _ _ hx h1 h2 h3 h4) h he'
   ·simp only [if_neg cM] at h ⊢
    exact pfx_or hc1 hse (fun b1 s1 hx h1=>⟨(one hx hse h1).1,(one hx hse h1).2.1⟩) (fun s1 hx=>(hev _ _ _ _ _ hx).full hse rfl) (fun s1 hx h1=>hrec _ _ _ _ hx hse h1 hN1 hc1)
     (fun s1 b2 s2 hx h1 h2=>by obtain ⟨rfl,rfl⟩ := Prod.mk.inj (Option.some.inj hx); exact ⟨rfl,.refl _,Int.le_refl _⟩) (fun s1 s2 hx h1 h2 h3 h4=>by obtain ⟨_,rfl⟩ := Prod.mk.inj (Option.some.inj hx); exact .inl ⟨h3,rfl⟩) h he'
  ·simp only [if_neg m1] at h ⊢
   by_cases cM : re.mx=-1 ∨ k < re.mx
   ·simp only [if_pos cM] at h ⊢
    exact pfx_or hc1 hse (fun b1 s1 hx h1=>⟨(one hx hse h1).1,(one hx hse h1).2.1⟩) (fun s1 hx=>(hev _ _ _ _ _ hx).full hse rfl) (fun s1 hx h1=>hrec _ _ _ _ hx hse h1 hN1 hc1) (fun s1 b2 s2 hx h1 h2=>one hx h1 h2) (fun s1 s2 hx h1 h2 h3 h4=>hrec _ _ _ _ hx h1 h2 h3 h4) h he'
   ·simp only [if_neg cM,orR] at h ⊢
    exact hrec _ _ _ _ h hse he' hN1 hc1
end pfx
theorem prefix_all {t : List Int} {F : Int} {N : Nat} : ∀ (n : Nat) (task : Task) (st : Sst) (b : Bool) (st' : Sst),evR t F n (-1) task st=some (b,st')→st.empty=false→st'.empty=false→st.ends.length < N→st.caps.length=st.ends.length→Pfx N st' (evR t F n N task st)
 | 0,_,_,_,_,h,_,_,_,_=>by cases h
 | n + 1,task,st,b,st',h,he,he',hN,hc=>by
  have hrec := prefix_all (t := t) (F := F) (N := N) n
  have hev := evI_of (t := t) (F := F) n
  replace h : evStep t F (evR t F n) (-1) task st=some (b,st') := h
  show Pfx N st' (evStep t F (evR t F n) N task st)
  cases task with
  | run g i c =>
   simp only [evStep] at h ⊢
   by_cases hi : i < 0 ∨ (t.length : Int) < i
   ·rw [if_pos hi] at h; cases h
   simp only [if_neg hi] at h ⊢
   cases g with
   | nil =>
    simp only at h ⊢
    by_cases hl : st.ends.length < 2000000000000∧st.caps.length=st.ends.length
    ·simp only [if_pos hl] at h ⊢
     obtain ⟨_,rfl⟩ := Prod.mk.inj (Option.some.inj h)
     by_cases hlt : (st.ends ++ [i]).length < N
     ·refine .inl ⟨hlt,?_⟩
      have : decide ((N : Int)≤(st.ends.length : Int) + 1)=false := decide_eq_false (by rw [List.length_append] at hlt; simp at hlt; omega)
      rw [this,Bool.and_false]
     ·have hlN : N=st.ends.length + 1 := by rw [List.length_append] at hlt; simp at hlt; omega
      refine .inr ⟨by show N≤(st.ends ++ [i]).length; omega,_,?_,he',Int.le_refl _,?_,?_⟩
      ·have h1 : decide ((N : Int)≤(st.ends.length : Int) + 1)=true := decide_eq_true (by omega)
       have h0 : decide ((0 : Int)≤(N : Int))=true := decide_eq_true (by omega)
       rw [h1,h0]
       rfl
      ·exact (List.take_of_length_le (by rw [List.length_append]; simp; omega)).symm
      ·exact (List.take_of_length_le (by rw [List.length_append]; simp; omega)).symm
    ·rw [if_neg hl] at h; cases h
   | mk kind re k f nx =>
    simp only at h ⊢
    by_cases k1 : kind=1
    ·simp only [if_pos k1] at h ⊢; exact hrec _ _ _ _ h he he' hN hc
    simp only [if_neg k1] at h ⊢
    by_cases k2 : kind=2
    ·simp only [if_pos k2] at h ⊢
     by_cases q : re.mn≤k∧i=f
     ·simp only [if_pos q] at h ⊢
      obtain ⟨_,rfl⟩ := Prod.mk.inj (Option.some.inj h)
      exact .inl ⟨hN,rfl⟩
     simp only [if_neg q] at h ⊢
     by_cases q2 : k < 0 ∨ 10000000000000 < k
     ·rw [if_pos q2] at h; cases h
     simp only [if_neg q2] at h ⊢
     exact hrec _ _ _ _ h he he' hN hc
    simp only [if_neg k2] at h ⊢
    by_cases k3 : kind=3
    ·simp only [if_pos k3] at h ⊢
     by_cases q2 : 1000000000 < c.length
     ·rw [if_pos q2] at h; cases h
     simp only [if_neg q2] at h ⊢
     exact hrec _ _ _ _ h he he' hN hc
    simp only [if_neg k3] at h ⊢
    by_cases k4 : kind=4
    ·simp only [if_pos k4] at h ⊢
     by_cases q : i=f
     ·simp only [if_pos q] at h ⊢; exact hrec _ _ _ _ h he he' hN hc
     ·simp only [if_neg q] at h ⊢
      obtain ⟨_,rfl⟩ := Prod.mk.inj (Option.some.inj h)
      exact .inl ⟨hN,rfl⟩
    simp only [if_neg k4] at h ⊢
    exact hrec _ _ _ _ h he he' hN hc
  | rep g i c =>
   simp only [evStep] at h ⊢
   by_cases hi : i < 0 ∨ (t.length : Int) < i
   ·rw [if_pos hi] at h; cases h
   simp only [if_neg hi] at h ⊢
   cases g with
   | nil=>cases h
   | mk kind re k f nx=>exact pfx_rep hrec hev h he he' hN hc
  | node g i c =>
   simp only [evStep] at h ⊢
   by_cases hi : i < 0 ∨ (t.length : Int) < i
   ·rw [if_pos hi] at h; cases h
   simp only [if_neg hi] at h ⊢
   cases g with
   | nil=>cases h
   | mk kind re k f nx =>
    simp only at h ⊢
    by_cases o4 : re.op=4
    ·simp only [if_pos o4] at h ⊢; exact hrec _ _ _ _ h he he' hN hc
    simp only [if_neg o4] at h ⊢
    by_cases q1 : 1000000000 < re.set.length ∨ 1000000000 < re.kids.length ∨ 1000000000 < c.length
    ·rw [if_pos q1] at h; cases h
    simp only [if_neg q1] at h ⊢
    by_cases q2 : st.steps < 0 ∨ 10000000000000 < st.steps
    ·rw [if_pos q2] at h; cases h
    simp only [if_neg q2] at h ⊢
    by_cases hse : (st.step F).empty=true
    ·rw [if_pos hse] at h; cases h; rw [hse] at he'; cases he'
    ·simp only [if_neg hse] at h ⊢
     exact pfx_node hrec hev h (by simpa using hse) he' hN hc
end Go.Proofs.Ytimnnipoaafdfaa
