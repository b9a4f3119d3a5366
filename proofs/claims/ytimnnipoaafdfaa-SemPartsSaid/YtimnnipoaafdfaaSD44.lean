/- A part of the proof (E5 E6). -/
import Derived.Test.YtimnnipoaafdfaaSD3
import Derived.Test.YtimnnipoaafdfaaSD5
import Derived.Test.YtimnnipoaafdfaaSD41
set_option linter.unusedSimpArgs false
set_option linter.unusedVariables false
set_option maxRecDepth 100000
set_option maxHeartbeats 80000000
namespace Go.Proofs.Ytimnnipoaafdfaa
open Go.VL Go.Proofs.Try
inductive LK where
 | tree (re : Re)
 | rep (re : Re) (k : Int)
 | list (l : List Re)
inductive Ln : LK→Int→Prop where
 | set {re : Re} (ho : re.op=1) : Ln (.tree re) 1
 | ref {re : Re} {n : Int} (ho : re.op=6) (h : 0≤n) : Ln (.tree re) n
 | cat {re : Re} {n : Int} (ho : re.op=2) (h : Ln (.list re.kids) n) : Ln (.tree re) n
 | alt {re kid : Re} {n : Int} (ho : re.op=3 ∨ re.op=5 ∨ re.op=9 ∨ re.op=10) (hk : kid ∈ re.kids) (h : Ln (.tree kid) n) : Ln (.tree re) n
 | rep {re : Re} {n : Int} (ho : re.op=4) (h : Ln (.rep re 0) n) : Ln (.tree re) n
 | zero {re : Re} (ho : re.op ∉ ([1,2,3,4,5,6,9,10] : List Int)) : Ln (.tree re) 0
 | nilL : Ln (.list []) 0
 | consL {k : Re} {l : List Re} {a b : Int} (h : Ln (.tree k) a) (h2 : Ln (.list l) b) : Ln (.list (k :: l)) (a + b)
 | done {re : Re} {k : Int} (hk : ¬ k < re.mn) : Ln (.rep re k) 0
 | more {re kid : Re} {k a b : Int} {l : List Re} (hkk : re.kids=kid :: l) (hk : k < re.mn ∨ re.mx=-1 ∨ k < re.mx) (h : Ln (.tree kid) a) (h2 : Ln (.rep re (k + 1)) b) : Ln (.rep re k) (a + b)
def InL (p : Int × Int) (n : Int) : Prop := p.1≤n∧(0≤p.2→n≤p.2)
end Go.Proofs.Ytimnnipoaafdfaa
