/- A part of the proof (Vzs Vzt Vzu). -/
import Derived.Test.YtllagoeijcjpiaaSL2
set_option linter.unusedSimpArgs false
set_option linter.unusedVariables false
set_option maxRecDepth 100000
set_option maxHeartbeats 80000000
namespace Go.VL
inductive Mix (lim:Nat) (s:List Obj):V→V→Prop
 | frz {x y:V}:frzV lim s x=some y→Mix lim s x y
 | keep {x:V}:refsV lim x=true→Mix lim s x x
 | ag {cs ds:List V}:ds.length=cs.length→(∀(i:Nat) (x y:V),cs[i]?=some x→ds[i]?=some y→Mix lim s x y)→Mix lim s (.ag cs) (.ag ds)
 | tu {cs ds:List V}:ds.length=cs.length→(∀(i:Nat) (x y:V),cs[i]?=some x→ds[i]?=some y→Mix lim s x y)→Mix lim s (.tu cs) (.tu ds)
end Go.VL
