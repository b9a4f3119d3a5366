/- The V-logic, part 19: calls of functions that work on one object of the caller. -/
import Derived.Test.YtafbdphblilenaaVr
namespace Go.VL

/-- A call of a function that works on one object, the caller's object k. -/
theorem call_at {P : Program} {f : FuncId} (k : Nat) {cargs args : List V} {s : List Obj} {o o' : Obj} {r r' : V} {K : V → List Obj → Prop} (h : callWp P f cargs [o] fun v s' => v = r ∧ s' = [o']) (ha : args = cargs.map (renV [k])) (hra : refsV.go 1 cargs = true)
    (hoo : objOk 1 o = true) (ho : s[k]? = some (renO [k] o)) (hr : renV [k] r = r') (hk : K r' (s.set k (renO [k] o'))) : callWp P f args s K := by
  refine call_frame h [k] rfl (by simp) (fun j ob hj => ?_) ha hra (by simp [hoo]) fun v s' hv => ?_
  · cases j with
    | zero => simp at hj; subst hj; simpa using ho
    | succ j => simp at hj
  · obtain ⟨rfl, rfl⟩ := hv
    refine ⟨rfl, ?_⟩
    rw [hr]
    simpa [putObjs] using hk

/-- The same in a drawn region. -/
theorem callF_at {P : Program} {f : FuncId} (k : Nat) {cargs args : List V} {s : List Obj} {o o' : Obj} {r r' : V} {K : V → List Obj → Prop} (h : callWp P f cargs [o] fun v s' => v = r ∧ s' = [o']) (ha : args = cargs.map (renV [k])) (hra : refsV.go 1 cargs = true)
    (hoo : objOk 1 o = true) (ho : s[k]? = some (renO [k] o)) (hr : renV [k] r = r') (hk : K r' (s.set k (renO [k] o'))) : callF P [k] [k] f args s K := by
  refine ⟨r', [renO [k] o'], rfl, fun s' hl hs => ?_, by simpa [putObjs] using hk⟩
  have := hs k (by simp)
  refine call_at k h ha hra hoo (by rw [this]; exact ho) hr ⟨rfl, by simp [putObjs]⟩

end Go.VL
