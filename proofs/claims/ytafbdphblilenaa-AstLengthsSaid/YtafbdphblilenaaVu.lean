/- The V-logic, part 21: a function's contract as a row asks for it: called in a world of which nothing is the call's own. -/
import Derived.Test.YtafbdphblilenaaVt
import Derived.ProofKit
import Derived.OpenShut
namespace Go.VL
open Go.ChangeShapes Go.WideShapes Go.ChangeAt Go.RowKit

def gh0 : Gh := ⟨fun _ => none, fun _ => False⟩

theorem own0 (b : Nat) : ¬ Own gh0 [] b := by
  rintro (h | ⟨id, o, base, h1, _⟩)
  · exact h
  · simp at h1

theorem inv0 (w : World) : Inv gh0 [] w :=
  ⟨fun id o h => by simp at h, fun id id' o o' b base base' h => by simp at h, fun b h => h.elim, fun id o b base h => by simp at h⟩

theorem run_pure {P : Program} {f : FuncId} {args : List V} {r : Bool} {vals : Array Value} {W : World} (h : PureOK P f args (.d (.sc (.bool r)))) (hv : vals.size = args.length) (hrep : ∀ (i : Nat) (x : V), args[i]? = some x → RepV gh0 [] W x (vals.getD i undef)) :
    Calls P f vals W fun e w' => e = .returned (.bool r) ∧ Below W.heap.size W w' := by
  refine (h.2 gh0 W vals (inv0 W) hv hrep).mono fun e w' ⟨u, v, σ', s', h1, h2, h3, h4, h5, h6⟩ => ?_
  subst h5
  cases h4 with | d h4 => ?_
  cases h4 with | sc _ _ => ?_
  exact ⟨h1, h2.os, h2.tape, h2.output, h2.size, fun b hb => h2.keep b hb (own0 b)⟩

theorem rep_int {W : World} (k : IntKind) (n : Int) : RepV gh0 [] W (.d (.sc (.int k n))) (.int k n) := .d (.sc _ rfl)

/-- A slice of integers that came in. -/
theorem rep_ints {W : World} {a : Addr} {len cap : Nat} {zs : List Int} {k : IntKind} (hl : len ≤ cap) (hz : zs.length = cap) (hcell : ∀ i, i < zs.length → W.cell? (a.add i) = some (.int k (zs.getD i 0))) :
    RepV gh0 [] W (.d (.sl ((zs.take len).map fun x => [D.sc (.int k x)]))) (.slice (some a) len cap) := by
  have hlen : ((zs.take len).map fun x => [D.sc (Value.int k x)]).length = len := by simp; omega
  have hcon := RepD.sl (O := Own gh0 []) (w := W) ((zs.take len).map fun x => [D.sc (.int k x)]) a cap 1 (fun i _ => .int k (zs.getD i 0)) (by rw [hlen]; exact hl)
    (fun hne => by
      have : 0 < len := by
        rcases Nat.eq_zero_or_pos len with h | h
        · subst h; simp at hne
        · exact h
      have := World.cell?_spot (hcell 0 (by omega))
      simpa [Addr.add] using this)
    (fun e he => by obtain ⟨x, _, rfl⟩ := List.mem_map.1 he; rfl)
    (fun i j x hx => by
      simp only [List.getElem?_map] at hx
      cases hi : (zs.take len)[i]? with
      | none => simp [hi] at hx
      | some y =>
        simp only [hi, Option.map_some, Option.bind_some] at hx
        have hj : j = 0 := by cases j with | zero => rfl | succ j => simp at hx
        subst hj
        have hil : i < len ∧ i < zs.length := by
          have := (List.getElem?_eq_some_iff.1 hi).1
          simp at this; omega
        refine ⟨?_, own0 _⟩
        have hsp := World.cell?_spot (hcell 0 (by omega))
        have hc := hcell i hil.2
        obtain ⟨b, off, sp⟩ := a
        have hsp' : sp = none := by simpa [Addr.add] using hsp
        subst hsp'
        rw [add_plain] at hc
        simpa using hc)
    (fun i j x hx => by
      simp only [List.getElem?_map] at hx
      cases hi : (zs.take len)[i]? with
      | none => simp [hi] at hx
      | some y =>
        simp only [hi, Option.map_some, Option.bind_some] at hx
        have hj : j = 0 := by cases j with | zero => rfl | succ j => simp at hx
        subst hj
        simp only [List.getElem?_cons_zero, Option.some.injEq] at hx
        subst hx
        have hil : i < len ∧ i < zs.length := by
          have := (List.getElem?_eq_some_iff.1 hi).1
          simp at this; omega
        have hy : zs.getD i 0 = y := by
          rw [List.getElem?_take, if_pos hil.1] at hi
          simp [List.getD, hi]
        rw [hy]
        exact .sc _ rfl)
  rw [hlen] at hcon
  exact .d hcon

end Go.VL
