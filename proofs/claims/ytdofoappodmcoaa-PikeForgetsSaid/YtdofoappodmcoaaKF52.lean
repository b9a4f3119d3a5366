/- A part of the proof (K45 K12 K46 K47 K52). -/
import Derived.Test.YtdofoappodmcoaaKF6
import Derived.Test.YtdofoappodmcoaaKF10
import Derived.Test.YtdofoappodmcoaaKF9
import Derived.Test.YtdofoappodmcoaaKF8
import Derived.Test.YtdofoappodmcoaaKF48
import Derived.Test.YtdofoappodmcoaaKF43
import Derived.Test.YtdofoappodmcoaaKF49
set_option linter.unusedSimpArgs false
set_option linter.unusedVariables false
set_option maxRecDepth 100000
set_option maxHeartbeats 80000000
namespace Go.Proofs.Ytdofoappodmcoaa
open Go.VL Go.Proofs.Try
structure Prg.small (g : Prg) (c : Nat) : Prop where
 len : g.ins.length≤c
 sets : ∀ i ∈ g.ins,i.set.length≤c
end Go.Proofs.Ytdofoappodmcoaa
namespace Go.Proofs.Ytdofoappodmcoaa
open Go.VL Go.Proofs.Try
theorem runR_caps (g : Prg) (t : List Int) (start : Int) (n : Nat) (hn : g.caps.toNat≤n) : ∀ (k : Nat) (l : RList) (b : Option Mat),(optM b).c.length≤n→(optM (runR g t start k l b)).c.length≤n
 | 0,_,_,h=>h
 | k + 1,l,b,h=>by
  have hb : (optM (bestR g start l b)).c.length≤n := by
   unfold bestR
   split
   ·simp [optM,capsOf]; omega
   ·exact h
  rw [runR]
  split
  ·exact hb
  ·exact runR_caps g t start n hn k _ _ hb
theorem runE_caps (g : Prg) (t : List Int) (at_ : Int) : (optM (runE g t at_).1).c.length≤9 := by
 unfold runE
 by_cases h : chkE g t at_=0
 ·rw [if_pos h]
  have hg := (chkE_ok h).1
  have := hg.caps1
  exact runR_caps g t at_ 9 (by omega) _ _ _ (by simp [optM])
 ·rw [if_neg h]; simp [optM]
end Go.Proofs.Ytdofoappodmcoaa
