/- A part of the proof (G21 G22 G23 G24 G25). -/
import Derived.Test.YtllagoeijcjpiaaSL2
import Derived.Test.YtllagoeijcjpiaaSL21
set_option linter.unusedSimpArgs false
set_option linter.unusedVariables false
set_option maxRecDepth 100000
set_option maxHeartbeats 80000000
namespace Go.Proofs.Ytllagoeijcjpiaa
open Go.VL Go.Proofs.Try
inductive BRef where
 | nil
 | root
 | el (re:Re)
inductive BGoal where
 | nil
 | mk (kind:Int) (re:BRef) (n at_:Int) (next:BGoal)
structure BPlace where
 at_:Int
 caps:CapsL
 todo:BGoal
structure Mst where
 p:Pat
 t:List Int
 ownText:Bool
 own:List Int
 ogen:Nat
 stk:List (Option BPlace)
 top:Nat
 gen:Nat
 deepest:Int
 start:Int
 steps:Int
 fuel:Int
 spent:Bool
 ready:Bool
def Mst.step (m:Mst):Mst:=if m.steps < m.fuel then { m with steps:=m.steps + 1 } else { m with spent:=true }
def Mst.same (m:Mst):Prop:=m.ownText=true→m.own=m.t
instance (m:Mst):Decidable m.same:=by unfold Mst.same; infer_instance
def Mst.good (m:Mst) (p:BPlace):Prop:=(0≤m.steps∧m.steps≤10000000000000∧m.top≤m.stk.length∧m.top≤1200000000000)∧(0≤p.at_∧p.at_≤m.t.length∧p.caps.length≤1000000000)∧m.t.length≤1000000∧m.same
instance (m:Mst) (p:BPlace):Decidable (m.good p):=by unfold Mst.good; infer_instance
end Go.Proofs.Ytllagoeijcjpiaa
namespace Go.Proofs.Ytllagoeijcjpiaa
open Go.VL Go.Proofs.Try
end Go.Proofs.Ytllagoeijcjpiaa
