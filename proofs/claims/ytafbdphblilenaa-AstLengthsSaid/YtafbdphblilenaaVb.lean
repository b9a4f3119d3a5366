/- The V-logic, part 2: what the objects and the world go through: a new object, an object written, a block that is nobody's, a draw. -/
import Derived.Test.YtafbdphblilenaaVa
namespace Go.VL

def updG (σ : Gh) (id : Nat) (p : Option (Nat × Nat)) : Gh := ⟨fun k => if k = id then p else σ k, σ.base⟩

theorem updG_same (σ : Gh) (id : Nat) (p : Option (Nat × Nat)) : updG σ id p id = p := by simp [updG]
theorem updG_other (σ : Gh) {id k : Nat} (p : Option (Nat × Nat)) (h : k ≠ id) : updG σ id p k = σ k := by simp [updG, h]

def Holds (σ : Gh) (s : List Obj) (w : World) (p : Option (Nat × Nat)) (o : Obj) : Prop :=
  (p = none ∧ o.els = []) ∨ ∃ b base arr E, p = some (b, base) ∧ w.heap[b]? = some (.cells arr E (0, 0)) ∧
    (∀ e ∈ o.els, e.length = o.sz) ∧ base + o.els.length * o.sz ≤ arr.size ∧
    ∀ i j x, (o.els[i]?.bind (·[j]?)) = some x → ∃ u, arr[base + i * o.sz + j]? = some u ∧ u.oneCell' = true ∧ RepV σ s w x u

theorem Holds.evolve {σ s w σ' s' w' p o} (h : Evolve σ s w σ' s' w') (hb : ∀ b base, p = some (b, base) → w'.heap[b]? = w.heap[b]?) (hh : Holds σ s w p o) : Holds σ' s' w' p o := by
  rcases hh with h1 | ⟨b, base, arr, E, h1, h2, h3, h4, h5⟩
  · exact .inl h1
  · exact .inr ⟨b, base, arr, E, h1, (hb b base h1).trans h2, h3, h4, fun i j x hx => let ⟨u, k1, k2, k3⟩ := h5 i j x hx; ⟨u, k1, k2, k3.evolve h⟩⟩

theorem Inv.lt {σ s w} (hI : Inv σ s w) {id o b base} (ho : s[id]? = some o) (hs : σ id = some (b, base)) : b < w.heap.size := by
  rcases hI.content id o ho with ⟨h1, _⟩ | ⟨b', base', arr, E, h1, h2, _⟩
  · rw [hs] at h1; cases h1
  · rw [hs] at h1; cases h1; exact lt_heap h2

theorem set_obj {σ : Gh} {s : List Obj} {w : World} (hI : Inv σ s w) {id : Nat} {o o' : Obj} {p : Option (Nat × Nat)} {w' : World} (ho : s[id]? = some o) (hl : o.live = true)
    (hos : w'.os = w.os) (htape : w'.tape = w.tape) (hout : w'.output = w.output) (hsize : w.heap.size ≤ w'.heap.size)
    (hkeep : ∀ b, b < w.heap.size → (∀ base, σ id ≠ some (b, base)) → w'.heap[b]? = w.heap[b]?)
    (hshape : ∀ b base arr E, σ id = some (b, base) → w.heap[b]? = some (.cells arr E (0, 0)) → ∃ arr', w'.heap[b]? = some (.cells arr' E (0, 0)) ∧ arr'.size = arr.size)
    (hg : o.g ≤ o'.g) (hg' : o'.g = o.g → o'.sz = o.sz ∧ p = σ id)
    (hp : ∀ b base, p = some (b, base) → (∃ base0, σ id = some (b, base0)) ∨ w.heap.size ≤ b)
    (hc : Evolve σ s w (updG σ id p) (s.set id o') w' → Holds (updG σ id p) (s.set id o') w' p o') :
    Evolve σ s w (updG σ id p) (s.set id o') w' ∧ Inv (updG σ id p) (s.set id o') w' := by
  have hlt : id < s.length := (List.getElem?_eq_some_iff.1 ho).1
  have hself : (s.set id o')[id]? = some o' := by simp [hlt]
  have hoth : ∀ k, k ≠ id → (s.set id o')[k]? = s[k]? := fun k hk => by rw [List.getElem?_set_ne (Ne.symm hk)]
  have hblk : ∀ k ok b base, k ≠ id → s[k]? = some ok → σ k = some (b, base) → w'.heap[b]? = w.heap[b]? := by
    intro k ok b base hk hok hs
    exact hkeep b (hI.lt hok hs) fun base' he => hk (hI.inj id k o ok b base' base ho hok hl he hs).symm
  have hE : Evolve σ s w (updG σ id p) (s.set id o') w' := by
    refine ⟨hos, htape, hout, hsize, ?_, ?_, ?_, ?_, rfl, fun b hb hf => hkeep b hb fun base he => hI.apart id o b base ho he hf⟩
    · intro b hb hno
      exact hkeep b hb fun base he => hno (.inr ⟨id, o, base, ho, hl, he⟩)
    · intro b arr E hO hh
      by_cases he : ∃ base, σ id = some (b, base)
      · obtain ⟨base, he⟩ := he
        exact hshape b base arr E he hh
      · exact ⟨arr, by rw [hkeep b (lt_heap hh) (fun base h' => he ⟨base, h'⟩)]; exact hh, rfl⟩
    · rintro b (hf | ⟨k, ok, base, hk1, hk2, hk3⟩)
      · exact .inl (.inl hf)
      by_cases hk : k = id
      · subst hk
        rw [updG_same] at hk3
        rcases hp b base hk3 with ⟨base0, h'⟩ | h'
        · exact .inl (.inr ⟨k, o, base0, ho, hl, h'⟩)
        · exact .inr h'
      · rw [updG_other _ _ hk] at hk3
        rw [hoth k hk] at hk1
        exact .inl (.inr ⟨k, ok, base, hk1, hk2, hk3⟩)
    · intro k ok hok
      by_cases hk : k = id
      · subst hk
        rw [ho] at hok; cases hok
        exact ⟨o', hself, hg, fun he => ⟨(hg' he).1, by rw [updG_same]; exact (hg' he).2⟩⟩
      · exact ⟨ok, by rw [hoth k hk]; exact hok, Nat.le_refl _, fun _ => ⟨rfl, updG_other _ _ hk⟩⟩
  refine ⟨hE, ⟨?_, ?_, fun b hb => Nat.lt_of_lt_of_le (hI.low b hb) hsize, ?_⟩⟩
  rotate_left 2
  · intro k ok b base h1 h3 hf
    by_cases hk : k = id
    · subst hk
      rw [updG_same] at h3
      rcases hp b base h3 with ⟨base0, h'⟩ | h'
      · exact hI.apart k o b base0 ho h' hf
      · have := hI.low b hf; omega
    · rw [updG_other _ _ hk] at h3
      rw [hoth k hk] at h1
      exact hI.apart k ok b base h1 h3 hf
  · intro k ok hok
    by_cases hk : k = id
    · subst hk
      rw [hself] at hok; cases hok
      rw [updG_same]
      exact hc hE
    · rw [hoth k hk] at hok
      rw [updG_other _ _ hk]
      exact Holds.evolve (p := σ k) hE (fun b base h => hblk k ok b base hk hok h) (hI.content k ok hok)
  · intro k k' ok ok' b base base' h1 h2 h3 h4 h5
    by_cases hk : k = id <;> by_cases hk' : k' = id
    · rw [hk, hk']
    · subst hk
      rw [updG_same] at h4
      rw [updG_other _ _ hk'] at h5
      rw [hoth k' hk'] at h2
      rcases hp b base h4 with ⟨base0, h'⟩ | h'
      · exact hI.inj _ _ _ _ _ _ _ ho h2 hl h' h5
      · have := hI.lt h2 h5; omega
    · subst hk'
      rw [updG_same] at h5
      rw [updG_other _ _ hk] at h4
      rw [hoth k hk] at h1
      rcases hp b base' h5 with ⟨base0, h'⟩ | h'
      · exact hI.inj _ _ _ _ _ _ _ h1 ho h3 h4 h'
      · have := hI.lt h1 h4; omega
    · rw [updG_other _ _ hk] at h4
      rw [updG_other _ _ hk'] at h5
      rw [hoth k hk] at h1
      rw [hoth k' hk'] at h2
      exact hI.inj _ _ _ _ _ _ _ h1 h2 h3 h4 h5

theorem push_obj {σ : Gh} {s : List Obj} {w : World} (hI : Inv σ s w) {o' : Obj} {p : Option (Nat × Nat)} {w' : World}
    (hos : w'.os = w.os) (htape : w'.tape = w.tape) (hout : w'.output = w.output) (hsize : w.heap.size ≤ w'.heap.size)
    (hkeep : ∀ b, b < w.heap.size → w'.heap[b]? = w.heap[b]?)
    (hp : ∀ b base, p = some (b, base) → w.heap.size ≤ b)
    (hc : Evolve σ s w (updG σ s.length p) (s ++ [o']) w' → Holds (updG σ s.length p) (s ++ [o']) w' p o') :
    Evolve σ s w (updG σ s.length p) (s ++ [o']) w' ∧ Inv (updG σ s.length p) (s ++ [o']) w' := by
  have hself : (s ++ [o'])[s.length]? = some o' := by simp
  have hoth : ∀ k ok, k ≠ s.length → (s ++ [o'])[k]? = some ok → s[k]? = some ok := by
    intro k ok hk h
    rw [List.getElem?_append] at h
    split at h
    · exact h
    · rename_i h'
      have : k - s.length ≠ 0 := by omega
      cases hh : k - s.length with
      | zero => omega
      | succ n => rw [hh] at h; simp at h
  have hlt : ∀ k ok, s[k]? = some ok → k ≠ s.length := fun k ok h => by have := (List.getElem?_eq_some_iff.1 h).1; omega
  have hE : Evolve σ s w (updG σ s.length p) (s ++ [o']) w' := by
    refine ⟨hos, htape, hout, hsize, fun b hb _ => hkeep b hb, fun b arr E _ hh => ⟨arr, by rw [hkeep b (lt_heap hh)]; exact hh, rfl⟩, ?_, ?_, rfl, fun b hb _ => hkeep b hb⟩
    · rintro b (hf | ⟨k, ok, base, hk1, hk2, hk3⟩)
      · exact .inl (.inl hf)
      by_cases hk : k = s.length
      · subst hk
        rw [updG_same] at hk3
        exact .inr (hp b base hk3)
      · rw [updG_other _ _ hk] at hk3
        exact .inl (.inr ⟨k, ok, base, hoth k ok hk hk1, hk2, hk3⟩)
    · intro k ok hok
      exact ⟨ok, by rw [List.getElem?_append_left (List.getElem?_eq_some_iff.1 hok).1]; exact hok, Nat.le_refl _, fun _ => ⟨rfl, updG_other _ _ (hlt k ok hok)⟩⟩
  refine ⟨hE, ⟨?_, ?_, fun b hb => Nat.lt_of_lt_of_le (hI.low b hb) hsize, ?_⟩⟩
  rotate_left 2
  · intro k ok b base h1 h3 hf
    by_cases hk : k = s.length
    · subst hk
      rw [updG_same] at h3
      have := hp b base h3
      have := hI.low b hf
      omega
    · rw [updG_other _ _ hk] at h3
      exact hI.apart k ok b base (hoth k ok hk h1) h3 hf
  · intro k ok hok
    by_cases hk : k = s.length
    · subst hk
      rw [hself] at hok; cases hok
      rw [updG_same]
      exact hc hE
    · have h' := hoth k ok hk hok
      rw [updG_other _ _ hk]
      exact Holds.evolve (p := σ k) hE (fun b base h => hkeep b (hI.lt h' h)) (hI.content k ok h')
  · intro k k' ok ok' b base base' h1 h2 h3 h4 h5
    by_cases hk : k = s.length <;> by_cases hk' : k' = s.length
    · rw [hk, hk']
    · subst hk
      rw [updG_same] at h4
      rw [updG_other _ _ hk'] at h5
      have := hI.lt (hoth k' ok' hk' h2) h5
      have := hp b base h4
      omega
    · subst hk'
      rw [updG_same] at h5
      rw [updG_other _ _ hk] at h4
      have := hI.lt (hoth k ok hk h1) h4
      have := hp b base' h5
      omega
    · rw [updG_other _ _ hk] at h4
      rw [updG_other _ _ hk'] at h5
      exact hI.inj _ _ _ _ _ _ _ (hoth k ok hk h1) (hoth k' ok' hk' h2) h3 h4 h5

/-- Blocks are laid that are nobody's; draws. -/
theorem same_obj {σ : Gh} {s : List Obj} {w w' : World} (hI : Inv σ s w) (hos : w'.os = w.os) (htape : w'.tape = w.tape) (hout : w'.output = w.output) (hsize : w.heap.size ≤ w'.heap.size)
    (hkeep : ∀ b, b < w.heap.size → w'.heap[b]? = w.heap[b]?) : Evolve σ s w σ s w' ∧ Inv σ s w' := by
  have hE : Evolve σ s w σ s w' := ⟨hos, htape, hout, hsize, fun b hb _ => hkeep b hb, fun b arr E _ hh => ⟨arr, by rw [hkeep b (lt_heap hh)]; exact hh, rfl⟩, fun b h => .inl h,
    fun id o ho => ⟨o, ho, Nat.le_refl _, fun _ => ⟨rfl, rfl⟩⟩, rfl, fun b hb _ => hkeep b hb⟩
  exact ⟨hE, fun k ok hok => Holds.evolve (p := σ k) hE (fun b base h => hkeep b (hI.lt hok h)) (hI.content k ok hok), hI.inj, fun b hb => Nat.lt_of_lt_of_le (hI.low b hb) hsize, hI.apart⟩

theorem drew_obj {σ : Gh} {s : List Obj} {w : World} (hI : Inv σ s w) : Evolve σ s w σ s w.drew ∧ Inv σ s w.drew :=
  same_obj hI rfl rfl rfl (Nat.le_refl _) (fun _ _ => rfl)

theorem alloc_obj {σ : Gh} {s : List Obj} {w : World} (hI : Inv σ s w) (x : Go.Obj) : Evolve σ s w σ s (w.alloc x) ∧ Inv σ s (w.alloc x) :=
  same_obj hI rfl rfl rfl (by simp) (fun b hb => Go.RowKit.Below.heap_alloc w x b hb)

end Go.VL
