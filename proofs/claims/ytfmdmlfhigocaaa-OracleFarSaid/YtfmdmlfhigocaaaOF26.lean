/- A part of the proof (F25 F26 F37 F38). -/
import Derived.Test.YtfmdmlfhigocaaaOF13
import Derived.Test.YtfmdmlfhigocaaaOF16
import Derived.Test.YtfmdmlfhigocaaaOF25
set_option linter.unusedSimpArgs false
set_option linter.unusedVariables false
set_option maxRecDepth 100000
set_option maxHeartbeats 80000000
set_option linter.unusedSimpArgs false
set_option linter.unusedVariables false
namespace Go.Proofs.Ytfmdmlfhigocaaa
open Go.VL Go.Proofs.Try
structure LR (tT:Bool) (p:Int×Int):Prop where
 a0:0<=p.1
 a1:p.1<=1000000
 b0:-1<=p.2
 b1:p.2<=1000000
 ab:p.2=-1\/p.1<=p.2
 nl:tT=true ↔ p.1=0
def Pj (re:Re):Bool:=decide (re.set.length<=10/\re.kids.length<=4/\0<=re.op/\re.op<=11/\(re.op=4->re.kids.length=1/\0<=re.mn/\re.mn<=2/\(re.mx=-1\/(1<=re.mx/\re.mx<=3/\re.mn<=re.mx))) /\
 (re.op=3\/re.op=10\/re.op=5\/re.op=9->re.kids≠[]))
theorem nJ {p:Re->Bool}{op mn mx mode n:Int}{set:List (Int×Int)}{kids:List Re}{neg:Bool} (h:p (.mk op set kids mn mx mode n neg)=true) (hk:∀k∈kids,k.every p=true):(Re.mk op set kids mn mx mode n neg).every p=true :=
 (Re.aS _).2 ⟨h,hk⟩
theorem uB {t:Mk->Re×Mk} (ht:∀m,(t m).1.every Pj=true):∀(f:Nat) (i:Int) (m:Mk),(∀k∈(aD t f i m).1,k.every Pj=true)/\(aD t f i m).1.length<=f
 |0,i,m=>by simp [aD]
 |f+1,i,m=>by
  simp only[aD]
  split
  ·obtain⟨h1,h2⟩:=uB ht f (i+1) (t (m.next 2).2).2
   refine⟨fun k hk=>?_,by simp;omega⟩
   rcases List.mem_cons.1 hk with rfl|hk
   ·exact ht _
   ·exact h1 k hk
  ·simp
theorem EN {t:Mk->Re×Mk} (m:Mk):(aD t 4 0 m).1≠[]:=by
 have hp:=bO m.l m.pos 2 (by omega)
 rw[aD,if_pos (by simp only[Mk.next];omega)]
 simp
theorem Nf {op mn mx mode n:Int}{neg:Bool} (h0:0<=op) (h1:op<=11) (h:op≠4/\op≠3/\op≠10/\op≠5/\op≠9):(Re.mk op [] [] mn mx mode n neg).every Pj=true:=by
 refine nJ (decide_eq_true ⟨by simp [Re.set],by simp [Re.kids],h0,h1,fun h'=>absurd h' h.1,fun h'=>?_⟩) (fun y hy=>by cases hy)
 obtain⟨_,a,b,c,d⟩:=h
 simp only[Re.op]at h'
 rcases h' with h'|h'|h'|h'
 ·exact absurd h' a
 ·exact absurd h' b
 ·exact absurd h' c
 ·exact absurd h' d
theorem Cb (n m:Int) (hm:1<=m) (hn:lA n):0<=nj n m/\nj n m<m:=by
 unfold lA at hn
 unfold nj
 split
 ·exact⟨Int.tmod_nonneg _ (by omega),Int.tmod_lt_of_pos _ (by omega)⟩
 ·exact⟨Int.tmod_nonneg _ (by omega),Int.tmod_lt_of_pos _ (by omega)⟩
end Go.Proofs.Ytfmdmlfhigocaaa
namespace Go.Proofs.Ytfmdmlfhigocaaa
open Go.VL Go.Proofs.Try
end Go.Proofs.Ytfmdmlfhigocaaa
