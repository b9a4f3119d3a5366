import Derived.Test.YtafbdphblilenaaF5
set_option linter.unusedSimpArgs false
set_option linter.unusedVariables false
namespace Go.Proofs.Ytafbdphblilenaa
open Go.VL

/-! ### The maker of trees: what it computes -/

def Mk.has (m : Mk) (u : Int) : Bool := decide (0 < bitV .and .i64 m.uses u)

def Re.node (op : Int) (kids : List Re) : Re := .mk op [] kids 0 0 0 0 false

def kidsFrom (t : Mk → Re × Mk) : Nat → Int → Mk → List Re × Mk
  | 0, _, m => ([], m)
  | f + 1, i, m =>
    if i < 2 + (m.next 2).1 then
      (((t (m.next 2).2).1) :: (kidsFrom t f (i + 1) (t (m.next 2).2).2).1, (kidsFrom t f (i + 1) (t (m.next 2).2).2).2)
    else ([], (m.next 2).2)

def repMins : List Int := [0, 0, 0, 0, 1, 1, 1, 0, 2, 0, 1, 2]
def repMaxs : List Int := [-1, -1, -1, 1, -1, -1, 2, 2, 2, 3, 1, -1]

/-- The mode of a repetition. -/
def repMode (m : Mk) : Int × Mk :=
  let x := m.next 2
  if m.has 8 then (if (x.2.next 4).1 = 0 then 2 else x.1, (x.2.next 4).2) else x

/-- What is repeated. -/
def repKid (t : Mk → Re × Mk) (m : Mk) : Re × Mk :=
  let x := t m
  if bitV .and .i64 x.2.uses 32 = 0 ∧ x.1.nul = true then x.2.set else x

def Mk.rep (t : Mk → Re × Mk) (m : Mk) : Re × Mk :=
  let k := m.next 12
  let md := repMode k.2
  let kid := repKid t md.2
  (.mk 4 [] [kid.1] ((repMins[k.1.toNat]?).getD 0) ((repMaxs[k.1.toNat]?).getD 0) md.1 0 false, kid.2)

/-- The number of a capture. -/
def capNum (m : Mk) : Int × Mk :=
  let again (m : Mk) : Int × Mk := (1 + (m.next (max 1 m.caps)).1, (m.next (max 1 m.caps)).2)
  if 4 < m.caps + 1 then again m
  else if 0 < m.caps then (if (m.next 9).1 = 0 then again (m.next 9).2 else (m.caps + 1, (m.next 9).2))
  else (m.caps + 1, m)

def Mk.withCaps (m : Mk) (c : Int) : Mk := ⟨m.l, m.pos, m.uses, m.left, c⟩
def Mk.less (m : Mk) : Mk := ⟨m.l, m.pos, m.uses, m.left - 1, m.caps⟩

def Mk.capture (t : Mk → Re × Mk) (m : Mk) : Re × Mk :=
  let c := capNum m
  let r := t (c.2.withCaps (max c.2.caps c.1))
  (.mk 5 [] [r.1] 0 0 0 c.1 false, r.2)

def Mk.node (t : Mk → Re × Mk) (k : Int) (m : Mk) : Re × Mk :=
  if k < 5 then (Re.node 2 (kidsFrom t 4 0 m).1, (kidsFrom t 4 0 m).2)
  else if k < 8 then (Re.node 3 (kidsFrom t 4 0 m).1, (kidsFrom t 4 0 m).2)
  else if k < 12 then m.rep t
  else if k = 12 ∧ m.has 64 = true then m.capture t
  else if k = 13 ∧ m.has 64 = true then m.capture t
  else if k = 14 ∧ m.has 16 = true then (.mk 11 [] [] 0 0 0 (m.next 6).1 false, (m.next 6).2)
  else if k = 15 ∧ m.has 4 = true then
    let y := (m.next 3).2.next 2
    (.mk (7 + y.1) [] [(t y.2).1] 0 0 0 0 (decide ((m.next 3).1 = 0)), (t y.2).2)
  else if k = 16 ∧ m.has 8 = true then (Re.node 9 [(t m).1], (t m).2)
  else if k = 17 ∧ m.has 1 = true ∧ 0 < m.caps then (.mk 6 [] [] 0 0 0 (1 + (m.next m.caps).1) false, (m.next m.caps).2)
  else if k = 18 ∧ m.has 2 = true ∧ 0 < m.caps then
    let x := m.next m.caps
    let y := t x.2
    let z := t y.2
    (.mk 10 [] [y.1, z.1] 0 0 0 (1 + x.1) false, z.2)
  else m.set

def Mk.tree : Nat → Mk → Re × Mk
  | 0, m =>
    let x := m.less.next 20
    if x.1 = 0 then (Re.node 0 [], x.2) else x.2.set
  | d + 1, m =>
    let x := m.less.next 20
    if x.2.left < 3 ∨ (x.2.l.length : Int) < x.2.pos then (if x.1 = 0 then (Re.node 0 [], x.2) else x.2.set)
    else x.2.node (Mk.tree d) x.1

/-- The bounds that it keeps. -/
structure Mk.In (m : Mk) (b : Int) : Prop where
  l : ∀ x ∈ m.l, I64 x
  p0 : 0 ≤ m.pos
  p1 : m.pos ≤ b
  l0 : -b ≤ m.left
  l1 : m.left ≤ 1000000
  c0 : 0 ≤ m.caps
  c1 : m.caps ≤ 4

theorem Mk.In.mono {m : Mk} {b b' : Int} (h : m.In b) (hb : b ≤ b') : m.In b' :=
  ⟨h.l, h.p0, by have := h.p1; omega, by have := h.l0; omega, h.l1, h.c0, h.c1⟩

theorem Mk.In.next {m : Mk} {b : Int} (h : m.In b) (n : Int) : (m.next n).2.In (b + 1) :=
  ⟨h.l, by have := h.p0; simp only [Mk.next]; omega, by have := h.p1; simp only [Mk.next]; omega, by have := h.l0; simp only [Mk.next]; omega, h.l1, h.c0, h.c1⟩

theorem Mk.In.set {m : Mk} {b : Int} (h : m.In b) : m.set.2.In (b + 1) := h.next 15

/-- A step that adds c to the bounds, and makes trees of at most z nodes. -/
def Good (t : Mk → Re × Mk) (c z : Int) : Prop := ∀ m b, 0 ≤ b → Mk.In m b → (t m).2.In (b + c) ∧ ((t m).1.size : Int) ≤ z

theorem ofSet_size (s : List (Int × Int)) : (Re.ofSet s).size = 1 := rfl

theorem kidsFrom_good {t : Mk → Re × Mk} {c z : Int} (hc : 0 ≤ c) (ht : Good t c z) : ∀ (f : Nat) (i : Int) (m : Mk) (b : Int), 0 ≤ b → m.In b → 
    (kidsFrom t f i m).2.In (b + f * (c + 1)) ∧ (Re.sizeL (kidsFrom t f i m).1 : Int) ≤ ((kidsFrom t f i m).1.length : Int) * z ∧ (kidsFrom t f i m).1.length ≤ f
  | 0, i, m, b, _, h => by simp only [kidsFrom]; exact ⟨by simpa using h, by simp [Re.sizeL], by simp⟩
  | f + 1, i, m, b, hb, h => by
    simp only [kidsFrom]
    have hf : (0 : Int) ≤ f * (c + 1) := Int.mul_nonneg (by omega) (by omega)
    have e : ((f + 1 : Nat) : Int) * (c + 1) = f * (c + 1) + c + 1 := by rw [Int.natCast_add, Int.add_mul]; simp; omega
    split
    · have h1 := h.next 2
      obtain ⟨h2, h3⟩ := ht _ (b + 1) (by omega) h1
      obtain ⟨h4, h5, h6⟩ := kidsFrom_good hc ht f (i + 1) _ (b + 1 + c) (by omega) h2
      refine ⟨h4.mono (by omega), ?_, by simpa using h6⟩
      simp only [Re.sizeL, List.length_cons, Int.natCast_add, Int.add_mul]
      omega
    · exact ⟨(h.next 2).mono (by omega), by simp [Re.sizeL], by simp⟩

end Go.Proofs.Ytafbdphblilenaa
