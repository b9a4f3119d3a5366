/- A part of the proof (K53 K54). -/
import Derived.Test.YtdofoappodmcoaaKS41
set_option linter.unusedSimpArgs false
set_option linter.unusedVariables false
set_option maxRecDepth 100000
set_option maxHeartbeats 80000000
namespace Go.Proofs.Ytdofoappodmcoaa
open Go.VL Go.Proofs.Try
structure RNd (st : RSt) : Prop where
 nd : (st.ths.map RTh.pc).Nodup
 ad : ∀ x ∈ st.ths,0≤x.pc∧st.added.getD x.pc.toNat true=true
theorem getD_set_true {l : List Bool} {i j : Nat} (h : l.getD j true=true) : (l.set i true).getD j true=true := by
 simp only [List.getD_eq_getElem?_getD,List.getElem?_set] at h ⊢
 split
 ·split <;> simp
 ·exact h
end Go.Proofs.Ytdofoappodmcoaa
