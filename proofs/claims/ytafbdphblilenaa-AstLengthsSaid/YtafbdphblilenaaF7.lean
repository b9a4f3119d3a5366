import Derived.Test.YtafbdphblilenaaF6
set_option linter.unusedSimpArgs false
set_option linter.unusedVariables false
namespace Go.Proofs.Ytafbdphblilenaa
open Go.VL

/-! ### The maker of trees: its bounds -/

theorem repMode_in {m : Mk} {b : Int} (h : m.In b) : (repMode m).2.In (b + 2) := by
  unfold repMode
  simp only
  split
  · have := (h.next 2).next 4
    rwa [show b + 1 + 1 = b + 2 by omega] at this
  · exact (h.next 2).mono (by omega)

theorem repKid_good {t : Mk → Re × Mk} {c z : Int} (hc : 0 ≤ c) (hz : 1 ≤ z) (ht : Good t c z) : Good (repKid t) (c + 1) z := by
  intro m b hb h
  obtain ⟨h1, h2⟩ := ht m b hb h
  unfold repKid
  simp only
  split
  · exact ⟨by have := h1.set; rwa [Int.add_assoc] at this, by simp only [Mk.set]; rw [ofSet_size]; omega⟩
  · exact ⟨h1.mono (by omega), h2⟩

theorem size_one (op mn mx mode n : Int) (neg : Bool) (k : Re) : ((Re.mk op [] [k] mn mx mode n neg).size : Int) = 1 + k.size := by
  simp [Re.size, Re.sizeL]

theorem rep_good {t : Mk → Re × Mk} {c z : Int} (hc : 0 ≤ c) (hz : 1 ≤ z) (ht : Good t c z) : Good (Mk.rep t) (c + 4) (z + 1) := by
  intro m b hb h
  have h1 := repMode_in (h.next 12)
  obtain ⟨h2, h3⟩ := repKid_good hc hz ht _ _ (by omega) h1
  simp only [Mk.rep]
  exact ⟨h2.mono (by omega), by rw [size_one]; omega⟩

theorem capNum_in {m : Mk} {b : Int} (h : m.In b) : (capNum m).2.In (b + 2) ∧ (capNum m).2.caps = m.caps ∧ 1 ≤ (capNum m).1 ∧ (capNum m).1 ≤ 4 := by
  have h0 := h.c0
  have h1 := h.c1
  have again : ∀ (m' : Mk), m'.caps = m.caps → 0 < m.caps → 0 ≤ pick m'.l m'.pos (max 1 m'.caps) ∧ pick m'.l m'.pos (max 1 m'.caps) < m.caps := by
    intro m' he hp
    have := pick_range m'.l m'.pos (max 1 m'.caps) (by omega)
    rw [he] at this ⊢
    omega
  unfold capNum
  simp only
  split
  · have := again m rfl (by omega)
    exact ⟨(h.next (max 1 m.caps)).mono (by omega), rfl, by simp only [Mk.next]; omega, by simp only [Mk.next]; omega⟩
  · split
    · split
      · have := again (m.next 9).2 rfl (by omega)
        refine ⟨?_, rfl, by simp only [Mk.next] at this ⊢; omega, by simp only [Mk.next] at this ⊢; omega⟩
        have h2 := (h.next 9).next (max 1 (m.next 9).2.caps)
        rwa [show b + 1 + 1 = b + 2 by omega] at h2
      · exact ⟨(h.next 9).mono (by omega), rfl, by omega, by omega⟩
    · exact ⟨h.mono (by omega), rfl, by omega, by omega⟩

theorem capture_good {t : Mk → Re × Mk} {c z : Int} (hc : 0 ≤ c) (ht : Good t c z) : Good (Mk.capture t) (c + 2) (z + 1) := by
  intro m b hb h
  obtain ⟨h1, h2, h3, h4⟩ := capNum_in h
  simp only [Mk.capture]
  obtain ⟨h5, h6⟩ := ht ((capNum m).2.withCaps (max (capNum m).2.caps (capNum m).1)) (b + 2) (by omega) ⟨h1.l, h1.p0, h1.p1, h1.l0, h1.l1, by show 0 ≤ max _ _; omega, by have := h.c1; show max _ _ ≤ 4; omega⟩
  exact ⟨h5.mono (by omega), by rw [size_one]; omega⟩

theorem node_good {t : Mk → Re × Mk} {c z : Int} (hc : 0 ≤ c) (hz : 1 ≤ z) (ht : Good t c z) (k : Int) : Good (Mk.node t k) (4 * (c + 1)) (4 * z + 1) := by
  intro m b hb h
  obtain ⟨a1, a2, a3⟩ := kidsFrom_good hc ht 4 0 m b hb h
  have a2' : (Re.sizeL (kidsFrom t 4 0 m).1 : Int) ≤ 4 * z := by
    have : ((kidsFrom t 4 0 m).1.length : Int) * z ≤ 4 * z := Int.mul_le_mul_of_nonneg_right (by omega) (by omega)
    omega
  have a1' : (kidsFrom t 4 0 m).2.In (b + 4 * (c + 1)) := a1
  have sz : ∀ op, ((Re.node op (kidsFrom t 4 0 m).1).size : Int) ≤ 4 * z + 1 := by intro op; simp only [Re.node, Re.size]; omega
  unfold Mk.node
  split
  · exact ⟨a1', sz _⟩
  split
  · exact ⟨a1', sz _⟩
  split
  · obtain ⟨h1, h2⟩ := rep_good hc hz ht m b hb h
    exact ⟨h1.mono (by omega), by omega⟩
  split
  · obtain ⟨h1, h2⟩ := capture_good hc ht m b hb h
    exact ⟨h1.mono (by omega), by omega⟩
  split
  · obtain ⟨h1, h2⟩ := capture_good hc ht m b hb h
    exact ⟨h1.mono (by omega), by omega⟩
  split
  · exact ⟨(h.next 6).mono (by omega), by simp [Re.size, Re.sizeL]; omega⟩
  split
  · simp only
    obtain ⟨h1, h2⟩ := ht _ (b + 1 + 1) (by omega) ((h.next 3).next 2)
    exact ⟨h1.mono (by omega), by rw [size_one]; omega⟩
  split
  · obtain ⟨h1, h2⟩ := ht m b hb h
    exact ⟨h1.mono (by omega), by simp only [Re.node]; rw [size_one]; omega⟩
  split
  · exact ⟨(h.next m.caps).mono (by omega), by simp [Re.size, Re.sizeL]; omega⟩
  split
  · simp only
    obtain ⟨h1, h2⟩ := ht _ (b + 1) (by omega) (h.next m.caps)
    obtain ⟨h3, h4⟩ := ht _ (b + 1 + c) (by omega) h1
    exact ⟨h3.mono (by omega), by simp only [Re.size, Re.sizeL]; omega⟩
  · exact ⟨h.set.mono (by omega), by simp only [Mk.set]; rw [ofSet_size]; omega⟩

def cD : Nat → Int
  | 0 => 3
  | d + 1 => 2 + 4 * (cD d + 1)
def zD : Nat → Int
  | 0 => 1
  | d + 1 => 4 * zD d + 1

theorem cD_nonneg : ∀ d, 3 ≤ cD d
  | 0 => by simp [cD]
  | d + 1 => by have := cD_nonneg d; simp only [cD]; omega
theorem zD_pos : ∀ d, 1 ≤ zD d
  | 0 => by simp [zD]
  | d + 1 => by have := zD_pos d; simp only [zD]; omega

theorem Mk.In.left {m : Mk} {b : Int} (h : m.In b) : m.less.In (b + 1) :=
  ⟨h.l, h.p0, by have := h.p1; show m.pos ≤ _; omega, by have := h.l0; show _ ≤ m.left - 1; omega, by have := h.l1; show m.left - 1 ≤ _; omega, h.c0, h.c1⟩

theorem tree_good : ∀ d, Good (Mk.tree d) (cD d) (zD d)
  | 0 => by
    intro m b hb h
    have h1 := h.left.next 20
    simp only [Mk.tree, cD, zD]
    split
    · exact ⟨h1.mono (by omega), by simp [Re.node, Re.size, Re.sizeL]⟩
    · exact ⟨h1.set.mono (by omega), by simp only [Mk.set]; rw [ofSet_size]; omega⟩
  | d + 1 => by
    intro m b hb h
    have h1 := h.left.next 20
    have hc := cD_nonneg d
    have hz := zD_pos d
    simp only [Mk.tree, cD, zD]
    split
    · split
      · exact ⟨h1.mono (by omega), by simp [Re.node, Re.size, Re.sizeL]; omega⟩
      · exact ⟨h1.set.mono (by omega), by simp only [Mk.set]; rw [ofSet_size]; omega⟩
    · obtain ⟨h2, h3⟩ := node_good (by omega) hz (tree_good d) ((m.less.next 20).1) _ (b + 1 + 1) (by omega) h1
      exact ⟨h2.mono (by omega), h3⟩

end Go.Proofs.Ytafbdphblilenaa
