/- A part of the proof (S51). -/
import Derived.Test.YtimnnipoaafdfaaSC18
import Derived.Test.YtimnnipoaafdfaaSC49
import Derived.Test.YtimnnipoaafdfaaSC48
set_option linter.unusedSimpArgs false
set_option linter.unusedVariables false
set_option maxRecDepth 100000
set_option maxHeartbeats 80000000
namespace Go.Proofs.Ytimnnipoaafdfaa
open Go.VL Go.Proofs.Try
theorem fitsFrom_gen {p : Pat} {t : List Int} {F : Int} (h : p.re.every genB = true) : ∀ n, (fitsFrom p t F n).1.re.every genB = true
 | 0 => by rfl
 | n + 1 => by
  unfold fitsFrom
  split
  ·exact h
  ·exact fitsFrom_gen h n
theorem fits_gen2 (l m : List Int) (hl : ∀ x ∈ l, I64 x) (hm : ∀ x ∈ m, I64 x) (uses most F : Int) (h0 : 0 ≤ most) (h1 : most ≤ 100) (hF0 : 1 ≤ F) (hF1 : F ≤ 1099511627776) : ∃ (p : Pat) (t : List Int), PureOK prog 10 [.d (intsD l), .d (intsD m), i64 uses, i64 most, i64 F] (.tu [patV p, .d (intsD t)]) ∧
  (∀ i : Int, 0 ≤ i → i ≤ t.length → allE p t i (-1) F = 0) ∧ p.re.fine = true ∧ t.length ≤ 12 ∧ p.re.every genB = true := by
 obtain ⟨hv, hsz⟩ := pat_valid l uses most hl h0 h1
 have hsm := pat_small l uses most hl h0 h1
 have hfine : (patOf l uses most).re.fine = true := small_fine (by omega) _ hsm.ev
 have htl : (textR m 12).length ≤ 12 := by simp [textR]; omega
 obtain ⟨g1, g2, g3⟩ := fits_good (p := patOf l uses most) (t := textR m 12) (F := F) hv hfine hF0 hF1 ((textR m 12).length + 1) (Nat.le_refl _)
 exact ⟨_, _, fits_ok l m hl hm uses most F h0 h1, g1, g2, by omega, fitsFrom_gen (pat_gen l uses most) _⟩
structure SpanOK (p : Pat) (t : List Int) (x : Int) (m : Mat) : Prop where
 s : m.s = x
 e0 : m.s ≤ m.e
 e1 : m.e ≤ t.length
 len : InL p.re.lens (m.e - m.s)
 caps : (m.c.length : Int) = p.caps
 ok : ∀ q ∈ m.c, q = (-1, -1) ∨ (0 ≤ q.1 ∧ q.1 ≤ q.2 ∧ q.2 ≤ t.length)
theorem spans_law {p : Pat} {t : List Int} {x : Int} (hg : p.re.every genB = true) (ht : t.length ≤ 12) (h : allE p t x (-1) 6000 = 0) : ∀ m ∈ matsL x (allM p t x (-1) 6000), SpanOK p t x m := by
 obtain ⟨hv7, h0, h1, he⟩ := allE_valid h
 obtain ⟨w1, _, _, _, _⟩ := valid7_spec hv7
 obtain ⟨_, _, hc0, hc9, _⟩ := validR_spec w1
 obtain ⟨k, e1, e2⟩ := search_ends (most := -1) hv7 h0 h1
 obtain ⟨new, newc, z1, z2, z3, z4, z5, z6⟩ := e2.more
 obtain ⟨new', y1, y2⟩ : NewL ⟨0, false, [], []⟩ (searchX p t x (-1) 6000).2 (LenT (.run (.mk 0 p.re 0 0 .nil) x (cap0 p))) := (evI_of k _ _ _ _ _ e1).lens
 intro m hm
 unfold allM at hm
 rw [if_pos h] at hm
 obtain ⟨⟨e, d⟩, hx, rfl⟩ := List.mem_map.1 hm
 obtain ⟨he1, hd1⟩ := List.of_mem_zip hx
 have hn : new' = new := by rw [y1] at z1; simpa using z1
 rw [z1] at he1
 rw [z2] at hd1
 have he1 : e ∈ new := by simpa using he1
 have hd1 : d ∈ newc := by simpa using hd1
 have hpos := z5 e he1
 have hcap := z6 d hd1
 have hlen := tree_len (y2 e (by rw [hn]; exact he1))
 obtain ⟨m2, l1, l2⟩ := hlen
 have l2 : e = m2 := l2
 subst l2
 obtain ⟨_, l3⟩ := ln_in l1 hg
 have hcl : (cap0 p).length = p.caps.toNat := by unfold cap0; rw [List.length_replicate]
 refine ⟨rfl, hpos.1, hpos.2, l3 (by omega), ?_, ?_⟩
 ·rw [show (Mat.mk x e d).c.length = d.length from rfl, hcap.2, hcl]; omega
 ·exact fun q hq => (hcap.1.2 q hq)
end Go.Proofs.Ytimnnipoaafdfaa
