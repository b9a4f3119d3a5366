/- A part of the proof (F26). -/
import Derived.Test.YtdofoappodmcoaaKS14
import Derived.Test.YtdofoappodmcoaaKS5
set_option linter.unusedSimpArgs false
set_option linter.unusedVariables false
set_option maxRecDepth 100000
set_option maxHeartbeats 80000000
set_option linter.unusedSimpArgs false
set_option linter.unusedVariables false
namespace Go.Proofs.Ytdofoappodmcoaa
open Go.VL Go.Proofs.Try
theorem every_mk {p : Re→Bool} {op mn mx mode n : Int} {set : List (Int × Int)} {kids : List Re} {neg : Bool} (h : p (.mk op set kids mn mx mode n neg)=true) (hk : ∀ k ∈ kids,k.every p=true) : (Re.mk op set kids mn mx mode n neg).every p=true :=
 (Re.every_iff _).2 ⟨h,hk⟩
theorem kidsFrom_gen {t : Mk→Re × Mk} (ht : ∀ m,(t m).1.every genB=true) : ∀ (f : Nat) (i : Int) (m : Mk),(∀ k ∈ (kidsFrom t f i m).1,k.every genB=true)∧(kidsFrom t f i m).1.length≤f
 | 0,i,m=>by simp [kidsFrom]
 | f + 1,i,m=>by
  simp only [kidsFrom]
  split
  ·obtain ⟨h1,h2⟩ := kidsFrom_gen ht f (i + 1) (t (m.next 2).2).2
   refine ⟨fun k hk=>?_,by simp; omega⟩
   rcases List.mem_cons.1 hk with rfl | hk
   ·exact ht _
   ·exact h1 k hk
  ·simp
theorem kidsFrom_ne {t : Mk→Re × Mk} (m : Mk) : (kidsFrom t 4 0 m).1 ≠ [] := by
 have hp := pick_range m.l m.pos 2 (by omega)
 rw [kidsFrom,if_pos (by simp only [Mk.next]; omega)]
 simp
theorem nil_gen {op mn mx mode n : Int} {neg : Bool} (h0 : 0≤op) (h1 : op≤11) (h : op ≠ 4∧op ≠ 3∧op ≠ 10∧op ≠ 5∧op ≠ 9) : (Re.mk op [] [] mn mx mode n neg).every genB=true := by
 refine every_mk (decide_eq_true ⟨by simp [Re.set],by simp [Re.kids],h0,h1,fun h'=>absurd h' h.1,fun h'=>?_⟩) (fun y hy=>by cases hy)
 obtain ⟨_,a,b,c,d⟩ := h
 simp only [Re.op] at h'
 rcases h' with h' | h' | h' | h'
 ·exact absurd h' a
 ·exact absurd h' b
 ·exact absurd h' c
 ·exact absurd h' d
end Go.Proofs.Ytdofoappodmcoaa
