/- A part of the proof (F19 F20 F21 F23 F24 F25). -/
import Derived.Test.YtpppfpaalcbggaaMB6
import Derived.Test.YtpppfpaalcbggaaMB7
set_option linter.unusedSimpArgs false
set_option linter.unusedVariables false
set_option maxRecDepth 100000
set_option maxHeartbeats 80000000
set_option linter.unusedSimpArgs false
set_option linter.unusedVariables false
namespace Go.Proofs.Ytpppfpaalcbggaa
open Go.VL Go.Proofs.Try
end Go.Proofs.Ytpppfpaalcbggaa
namespace Go.Proofs.Ytpppfpaalcbggaa
open Go.VL Go.Proofs.Try
mutual
def Re.every (p:Re→Bool):Re→Bool
 | .mk op set kids mn mx mode n neg=>p (.mk op set kids mn mx mode n neg)&&Re.everyL p kids
def Re.everyL (p:Re→Bool):List Re→Bool
 | []=>true
 | k::l=>Re.every p k&&Re.everyL p l
end
theorem Re.everyL_all (p:Re→Bool):∀l:List Re,Re.everyL p l=l.all (Re.every p)
 | []=>rfl
 | k::l=>by simp [Re.everyL,Re.everyL_all p l]
theorem Re.every_iff {p:Re→Bool} (re:Re):re.every p=true ↔ p re=true∧∀k∈re.kids,k.every p=true:=by
 cases re with
 | mk op set kids mn mx mode n neg=>simp only[Re.every,Bool.and_eq_true,Re.everyL_all,List.all_eq_true,Re.kids]
end Go.Proofs.Ytpppfpaalcbggaa
namespace Go.Proofs.Ytpppfpaalcbggaa
open Go.VL Go.Proofs.Try
structure LR (nul:Bool) (p:Int × Int):Prop where
 a0:0≤p.1
 a1:p.1≤1000000
 b0:-1≤p.2
 b1:p.2≤1000000
 ab:p.2=-1∨p.1≤p.2
 nl:nul=true ↔ p.1=0
theorem lplus_in {a b:Int} (h1:-1≤a∧a≤1000000) (h2:-1≤b∧b≤1000000):lplus a b=if a < 0∨b < 0 then -1 else min (a + b) 1000000:=by
 unfold lplus
 rw[w64 _ (by omega)]
theorem cat_step {na nk:Bool} {a k:Int × Int} (ha:LR na a) (hk:LR nk k):LR (na&&nk) (lplus a.1 k.1,lplus a.2 k.2):=by
 obtain⟨a0,a1,b0,b1,ab,nl⟩:=ha
 obtain⟨c0,c1,d0,d1,cd,nl'⟩:=hk
 have e1:lplus a.1 k.1=min (a.1 + k.1) 1000000:=by rw[lplus_in ⟨by omega,a1⟩ ⟨by omega,c1⟩,if_neg (by omega)]
 have e2:=lplus_in ⟨b0,b1⟩ ⟨d0,d1⟩
 refine⟨?_,?_,?_,?_,?_,?_⟩ <;> simp only[e1,e2]
 ·omega
 ·omega
 ·split <;> omega
 ·split <;> omega
 ·split <;> omega
 ·rw[Bool.and_eq_true,nl,nl']; omega
theorem cat_foldl:∀(l:List (Bool × (Int × Int))) (na:Bool) (a:Int × Int),LR na a→(∀x∈l,LR x.1 x.2) →
  LR (na&&(l.map (·.1)).all id) ((l.map (·.2)).foldl (fun a k=>(lplus a.1 k.1,lplus a.2 k.2)) a)
 | [],na,a,h,_=>by simpa using h
 | x::l,na,a,h,hl=>by
  have:=cat_foldl l (na&&x.1) _ (cat_step h (hl x (by simp))) (fun y hy=>hl y (by simp [hy]))
  simpa [Bool.and_assoc] using this
theorem alt_step {na nk:Bool} {a k:Int × Int} (ha:LR na a) (hk:LR nk k):LR (na||nk) (altF a k):=by
 obtain⟨a0,a1,b0,b1,ab,nl⟩:=ha
 obtain⟨c0,c1,d0,d1,cd,nl'⟩:=hk
 refine⟨?_,?_,?_,?_,?_,?_⟩ <;> simp only[altF,lgreater]
 ·omega
 ·omega
 ·split <;> omega
 ·split <;> omega
 ·split <;> omega
 ·rw[Bool.or_eq_true,nl,nl']; omega
theorem alt_foldl:∀(l:List (Bool × (Int × Int))) (na:Bool) (a:Int × Int),LR na a→(∀x∈l,LR x.1 x.2) →
  LR (na||(l.map (·.1)).any id) ((l.map (·.2)).foldl altF a)
 | [],na,a,h,_=>by simpa using h
 | x::l,na,a,h,hl=>by
  have:=alt_foldl l (na||x.1) _ (alt_step h (hl x (by simp))) (fun y hy=>hl y (by simp [hy]))
  simpa [Bool.or_assoc] using this
theorem altF_self {n:Bool} {k:Int × Int} (h:LR n k):altF k k=k:=by
 obtain⟨a0,a1,b0,b1,ab,nl⟩:=h
 refine Prod.ext ?_ ?_ <;> simp only[altF,lgreater]
 ·omega
 ·split <;> omega
theorem lt_nn {b n:Int} (h0:0≤b) (h1:b≤1000000) (n0:0≤n) (n1:n≤1000000):ltimes b n=min (b * n) 1000000:=by
 have hle:b * n≤1000000 * 1000000:=Int.mul_le_mul h1 n1 n0 (by omega)
 have hge:0≤b * n:=Int.mul_nonneg h0 n0
 unfold ltimes
 split
 ·rename_i h
  rcases h with h | h <;> subst h <;> simp <;> omega
 ·rw[if_neg (by omega),w64 _ (by omega)]
theorem lt_neg {n:Int} (n0:0 < n):ltimes (-1) n=-1:=by
 unfold ltimes
 rw[if_neg (by omega),if_pos (by omega)]
theorem lt_any {b:Int} (h:¬b=0):ltimes b (-1)=-1:=by
 unfold ltimes
 rw[if_neg (by omega),if_pos (by omega)]
theorem lt_zero' (n:Int):ltimes 0 n=0:=by simp [ltimes]
end Go.Proofs.Ytpppfpaalcbggaa
