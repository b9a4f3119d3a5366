/- A part of the proof (S42 S43). -/
import Derived.Test.YtimnnipoaafdfaaSD42
set_option linter.unusedSimpArgs false
set_option linter.unusedVariables false
set_option maxRecDepth 100000
set_option maxHeartbeats 80000000
namespace Go.Proofs.Ytimnnipoaafdfaa
open Go.VL Go.Proofs.Try
def matsL (i : Int) (L : List (Int × CapsL)) : List Mat := L.map fun x=>⟨i,x.1,x.2⟩
theorem matsL_D (i : Int) (L : List (Int × CapsL)) : L.map (matchD i)=(matsL i L).map matD := by unfold matsL; rw [List.map_map]; rfl
theorem mats_caps {p : Pat} {t : List Int} {i n f : Int} : ∀ m ∈ matsL i (allM p t i n f),m.c.length≤1000000000 := by
 intro m hm
 obtain ⟨x,hx,rfl⟩ := List.mem_map.1 hm
 by_cases h : allE p t i n f=0
 ·obtain ⟨hv7,h0,h1,he⟩ := allE_valid h
  obtain ⟨_,_,e2⟩ := search_ends (most := n) hv7 h0 h1
  obtain ⟨new,newc,z1,z2,z3,z4,z5,z6⟩ := e2.more
  unfold allM at hx
  rw [if_pos h] at hx
  have hd := (List.of_mem_zip hx).2
  rw [z2] at hd
  exact (z6 _ (by simpa using hd)).1.1
 ·unfold allM at hx; rw [if_neg h] at hx; cases hx
theorem allM_len {p : Pat} {t : List Int} {i n f : Int} (h : allE p t i n f=0) : ((allM p t i n f).length : Int)≤allN p t i n f + 1∧(allM p t i n f).length=(searchX p t i n f).2.ends.length := by
 have h1 := ends_le h
 have h2 := searchX_caps h
 unfold allM
 rw [if_pos h,List.length_zip,h2]
 simp only [Nat.min_self]
 exact ⟨h1,trivial⟩
end Go.Proofs.Ytimnnipoaafdfaa
