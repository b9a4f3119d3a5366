/- A part of the proof (G54 G55). -/
import Derived.Test.YtilapneoohcplaaBO18
set_option linter.unusedSimpArgs false
set_option linter.unusedVariables false
set_option maxRecDepth 100000
set_option maxHeartbeats 80000000
namespace Go.Proofs.Ytilapneoohcplaa
open Go.VL Go.Proofs.Try
def FA (F F' : Int) (st st' : Sst) (b : Bool) (o : Option (Bool × Sst)) : Prop :=
 st.steps ≤ st'.steps ∧ (st'.empty = true → b = true ∧ F < st'.steps) ∧ (st.steps ≤ F' → (st'.steps ≤ F' → o = some (b, st')) ∧ (F' < st'.steps → ∃ s2, o = some (true, s2) ∧ s2.empty = true))
section fuel
variable {t : List Int} {F F' : Int} {rec rec' : Int → Task → Sst → Option (Bool × Sst)}
variable (h : ∀ most task st b st', rec most task st = some (b, st') → st.empty = false → FA F F' st st' b (rec' most task st))
include h
end fuel
section fuel
variable {t : List Int} {F F' : Int} (hFF : F' ≤ F)
include hFF
variable {rec rec' : Int → Task → Sst → Option (Bool × Sst)} (h : ∀ most task st b st', rec most task st = some (b, st') → st.empty = false → FA F F' st st' b (rec' most task st))
include h
end fuel
end Go.Proofs.Ytilapneoohcplaa
