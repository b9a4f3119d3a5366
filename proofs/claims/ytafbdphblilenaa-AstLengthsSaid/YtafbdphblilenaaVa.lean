/- The V-logic, part 1: abstract values, how they stand for values in a world, and how that is kept while the world goes on. No program in sight. -/
import Derived.WalkKit
import Derived.WalkSpells
import Derived.ChangeKeysEq
import Derived.Deep.AppendSrc
namespace Go.VL

/-- Pure data, by value: a scalar cell, a slice (a list of elements, each its cells), a pointer to cells that nobody writes. -/
inductive D where
  | sc (v : Value)
  | sl (els : List (List D))
  | el (cs : List D)
  | ub

/-- What a slot of a frame, or a cell of an object, stands for. -/
inductive V where
  | d (x : D)
  | ag (cs : List V)
  | fu (els : List (List D))
  | so (id g lo n : Nat)
  | rf (id g i off : Nat)
  | cl (fn : Fn) (first caps : List V)
  | tu (vs : List V)
  | un
  | any

/-- An object of the call's own: a boxed variable, an array. -/
structure Obj where
  g : Nat
  live : Bool
  sz : Nat
  els : List (List V)

/-- Where the objects lie; and which blocks are somebody else's: they are neither read nor written. -/
structure Gh where
  map : Nat → Option (Nat × Nat)
  base : Nat → Prop

instance : CoeFun Gh (fun _ => Nat → Option (Nat × Nat)) := ⟨Gh.map⟩

def Own (σ : Gh) (s : List Obj) (b : Nat) : Prop := σ.base b ∨ ∃ id o base, s[id]? = some o ∧ o.live = true ∧ σ id = some (b, base)

inductive RepD (O : Nat → Prop) (w : World) : D → Value → Prop
  | sc (v : Value) : v.oneCell' = true → RepD O w (.sc v) v
  | nil : RepD O w (.sl []) (.slice none 0 0)
  | sl (els : List (List D)) (a : Addr) (cap sz : Nat) (f : Nat → Nat → Value) : els.length ≤ cap → (els ≠ [] → a.spot = none) → (∀ e ∈ els, e.length = sz) →
      (∀ i j x, (els[i]?.bind (·[j]?)) = some x → w.cell? ⟨a.block, a.off + i * sz + j, none⟩ = some (f i j) ∧ ¬ O a.block) →
      (∀ i j x, (els[i]?.bind (·[j]?)) = some x → RepD O w x (f i j)) → RepD O w (.sl els) (.slice (some a) els.length cap)
  | el (cs : List D) (a : Addr) (f : Nat → Value) : a.spot = none →
      (∀ j x, cs[j]? = some x → w.cell? ⟨a.block, a.off + j, none⟩ = some (f j) ∧ ¬ O a.block) →
      (∀ j x, cs[j]? = some x → RepD O w x (f j)) → RepD O w (.el cs) (.pointer (some a))
  | ub (b : Bool) : RepD O w .ub (.bool b)

def SoOK (σ : Gh) (w : World) (id : Nat) (o : Obj) (lo n : Nat) (u : Value) : Prop :=
  (σ id = none ∧ (∃ a, u = .slice a 0 0) ∧ lo = 0 ∧ n = 0) ∨
  ∃ b base cap E arr, σ id = some (b, base) ∧ w.heap[b]? = some (.cells arr E (0, 0)) ∧ u = .slice (some ⟨b, base + lo * o.sz, none⟩) n cap ∧ n ≤ cap ∧ base + (lo + cap) * o.sz ≤ arr.size

inductive RepV (σ : Gh) (s : List Obj) (w : World) : V → Value → Prop
  | d {x : D} {u : Value} : RepD (Own σ s) w x u → RepV σ s w (.d x) u
  | ag {cs : List V} {arr : Array Value} : arr.size = cs.length → (∀ i x, cs[i]? = some x → (arr.getD i undef).oneCell' = true) →
      (∀ i x, cs[i]? = some x → RepV σ s w x (arr.getD i undef)) → RepV σ s w (.ag cs) (.agg arr)
  | tu {cs : List V} {arr : Array Value} : arr.size = cs.length → (∀ i x, cs[i]? = some x → RepV σ s w x (arr.getD i undef)) → RepV σ s w (.tu cs) (.tuple arr)
  | fu {els : List (List D)} {a : Option Addr} : RepD (Own σ s) w (.sl els) (.slice a els.length els.length) → RepV σ s w (.fu els) (.slice a els.length els.length)
  | so {id g lo n : Nat} {u : Value} (o : Obj) : s[id]? = some o → g ≤ o.g → u.oneCell' = true → (o.g = g → SoOK σ w id o lo n u) → RepV σ s w (.so id g lo n) u
  | rf {id g i off : Nat} {u : Value} (o : Obj) : s[id]? = some o → g ≤ o.g → u.oneCell' = true → (o.g = g → ∃ b base, σ id = some (b, base) ∧ u = .pointer (some ⟨b, base + i * o.sz + off, none⟩)) →
      RepV σ s w (.rf id g i off) u
  | cl {fn : Fn} {first caps : List V} {f' c' : Array Value} : f'.size = first.length → (∀ i x, first[i]? = some x → RepV σ s w x (f'.getD i undef)) →
      c'.size = caps.length → (∀ i x, caps[i]? = some x → RepV σ s w x (c'.getD i undef)) → RepV σ s w (.cl fn first caps) (.func fn f' c')
  | un : RepV σ s w .un undef
  | any {u : Value} : RepV σ s w .any u

/-- How the objects and the world may go on. -/
structure Evolve (σ : Gh) (s : List Obj) (w : World) (σ' : Gh) (s' : List Obj) (w' : World) : Prop where
  os : w'.os = w.os
  tape : w'.tape = w.tape
  output : w'.output = w.output
  size : w.heap.size ≤ w'.heap.size
  keep : ∀ b, b < w.heap.size → ¬ Own σ s b → w'.heap[b]? = w.heap[b]?
  shape : ∀ b arr E, Own σ s b → w.heap[b]? = some (.cells arr E (0, 0)) → ∃ arr', w'.heap[b]? = some (.cells arr' E (0, 0)) ∧ arr'.size = arr.size
  own : ∀ b, Own σ' s' b → Own σ s b ∨ w.heap.size ≤ b
  objs : ∀ id o, s[id]? = some o → ∃ o', s'[id]? = some o' ∧ o.g ≤ o'.g ∧ (o'.g = o.g → o'.sz = o.sz ∧ σ' id = σ id)
  base : σ'.base = σ.base
  foreign : ∀ b, b < w.heap.size → σ.base b → w'.heap[b]? = w.heap[b]?

theorem Evolve.refl (σ : Gh) (s : List Obj) (w : World) : Evolve σ s w σ s w :=
  ⟨rfl, rfl, rfl, Nat.le_refl _, fun _ _ _ => rfl, fun _ arr _ _ h => ⟨arr, h, rfl⟩, fun _ h => .inl h, fun _ o h => ⟨o, h, Nat.le_refl _, fun _ => ⟨rfl, rfl⟩⟩, rfl, fun _ _ _ => rfl⟩

theorem lt_heap {w : World} {b : Nat} {o : Go.Obj} (h : w.heap[b]? = some o) : b < w.heap.size := by
  rcases Nat.lt_or_ge b w.heap.size with h' | h'
  · exact h'
  · simp [Array.getElem?_eq_none h'] at h


theorem Evolve.trans {σ s w σ' s' w' σ'' s'' w''} (h : Evolve σ s w σ' s' w') (k : Evolve σ' s' w' σ'' s'' w'') : Evolve σ s w σ'' s'' w'' := by
  refine ⟨k.os.trans h.os, k.tape.trans h.tape, k.output.trans h.output, Nat.le_trans h.size k.size, ?_, ?_, ?_, ?_, k.base.trans h.base,
    fun b hb ho => (k.foreign b (Nat.lt_of_lt_of_le hb h.size) (by rw [h.base]; exact ho)).trans (h.foreign b hb ho)⟩
  · intro b hb ho
    rw [k.keep b (Nat.lt_of_lt_of_le hb h.size) (fun h' => (h.own b h').elim ho (fun h'' => by omega)), h.keep b hb ho]
  · intro b arr E ho hh
    obtain ⟨arr', h1, h2⟩ := h.shape b arr E ho hh
    by_cases ho' : Own σ' s' b
    · obtain ⟨arr'', h3, h4⟩ := k.shape b arr' E ho' h1
      exact ⟨arr'', h3, by omega⟩
    · exact ⟨arr', by rw [k.keep b (lt_heap h1) ho']; exact h1, h2⟩
  · intro b hb
    rcases k.own b hb with h' | h'
    · exact h.own b h'
    · exact .inr (Nat.le_trans h.size h')
  · intro id o ho
    obtain ⟨o', h1, h2, h3⟩ := h.objs id o ho
    obtain ⟨o'', k1, k2, k3⟩ := k.objs id o' h1
    refine ⟨o'', k1, Nat.le_trans h2 k2, fun he => ?_⟩
    have e1 : o'.g = o.g := by omega
    have e2 : o''.g = o'.g := by omega
    exact ⟨(k3 e2).1.trans (h3 e1).1, (k3 e2).2.trans (h3 e1).2⟩

theorem Evolve.cell {σ s w σ' s' w'} (h : Evolve σ s w σ' s' w') {a : Addr} {u : Value} (hc : w.cell? a = some u) (ho : ¬ Own σ s a.block) :
    w'.cell? a = some u ∧ ¬ Own σ' s' a.block := by
  have hb := World.block_lt_of_cell? _ _ hc
  refine ⟨?_, fun h' => ?_⟩
  · rw [World.cell?_of_block (w := w) (h.keep a.block hb ho)]; exact hc
  · rcases h.own _ h' with h' | h'
    · exact ho h'
    · omega

theorem RepD.evolve {σ s w σ' s' w'} (h : Evolve σ s w σ' s' w') {x : D} {u : Value} (hr : RepD (Own σ s) w x u) : RepD (Own σ' s') w' x u := by
  induction hr with
  | sc v hv => exact .sc v hv
  | nil => exact .nil
  | sl els a cap sz f h1 h2 h3 h4 _ ih => exact .sl els a cap sz f h1 h2 h3 (fun i j x hx => h.cell (a := ⟨a.block, _, none⟩) (h4 i j x hx).1 (h4 i j x hx).2) ih
  | el cs a f h1 h2 _ ih => exact .el cs a f h1 (fun j x hx => h.cell (a := ⟨a.block, _, none⟩) (h2 j x hx).1 (h2 j x hx).2) ih
  | ub b => exact .ub b

/-- A world in which just the blocks that somebody owns are hidden: fewer owners, more is read. -/
theorem RepD.own {O O' : Nat → Prop} {w : World} {x : D} {u : Value} (h : ∀ b, O' b → O b) (hr : RepD O w x u) : RepD O' w x u := by
  induction hr with
  | sc v hv => exact .sc v hv
  | nil => exact .nil
  | sl els a cap sz f h1 h2 h3 h4 _ ih => exact .sl els a cap sz f h1 h2 h3 (fun i j x hx => ⟨(h4 i j x hx).1, fun h' => (h4 i j x hx).2 (h _ h')⟩) ih
  | el cs a f h1 h2 _ ih => exact .el cs a f h1 (fun j x hx => ⟨(h2 j x hx).1, fun h' => (h2 j x hx).2 (h _ h')⟩) ih
  | ub b => exact .ub b

theorem SoOK.evolve {σ s w σ' s' w'} (h : Evolve σ s w σ' s' w') {id : Nat} {o o' : Obj} {lo n : Nat} {u : Value} (hsz : o'.sz = o.sz) (hs : σ' id = σ id)
    (hk : SoOK σ w id o lo n u) : SoOK σ' w' id o' lo n u := by
  rcases hk with ⟨h1, h2, h3, h4⟩ | ⟨b, base, cap, E, arr, h1, h2, h3, h4, h5⟩
  · exact .inl ⟨hs.trans h1, h2, h3, h4⟩
  · by_cases hO : Own σ s b
    · obtain ⟨arr', k1, k2⟩ := h.shape b arr E hO h2
      exact .inr ⟨b, base, cap, E, arr', hs.trans h1, k1, by rw [hsz]; exact h3, h4, by rw [hsz, k2]; exact h5⟩
    · exact .inr ⟨b, base, cap, E, arr, hs.trans h1, by rw [h.keep b (lt_heap h2) hO]; exact h2, by rw [hsz]; exact h3, h4, by rw [hsz]; exact h5⟩

theorem RepV.evolve {σ s w σ' s' w'} (h : Evolve σ s w σ' s' w') {x : V} {u : Value} (hr : RepV σ s w x u) : RepV σ' s' w' x u := by
  induction hr with
  | d hx => exact .d (hx.evolve h)
  | ag h1 h2 _ ih => exact .ag h1 h2 ih
  | tu h1 _ ih => exact .tu h1 ih
  | fu hx => exact .fu (hx.evolve h)
  | so o ho hg hu hk =>
    obtain ⟨o', h1, h2, h3⟩ := h.objs _ o ho
    exact .so o' h1 (Nat.le_trans hg h2) hu fun he => have e : o'.g = o.g := by omega
      SoOK.evolve h (h3 e).1 (h3 e).2 (hk (by omega))
  | rf o ho hg hu hk =>
    obtain ⟨o', h1, h2, h3⟩ := h.objs _ o ho
    refine .rf o' h1 (Nat.le_trans hg h2) hu fun he => ?_
    have e : o'.g = o.g := by omega
    obtain ⟨b, base, k1, k2⟩ := hk (by omega)
    exact ⟨b, base, (h3 e).2.trans k1, by rw [(h3 e).1]; exact k2⟩
  | cl h1 _ h3 _ ih1 ih2 => exact .cl h1 ih1 h3 ih2
  | un => exact .un
  | any => exact .any

/-- What the objects hold. -/
structure Inv (σ : Gh) (s : List Obj) (w : World) : Prop where
  content : ∀ id o, s[id]? = some o → (σ id = none ∧ o.els = []) ∨ ∃ b base arr E, σ id = some (b, base) ∧ w.heap[b]? = some (.cells arr E (0, 0)) ∧
    (∀ e ∈ o.els, e.length = o.sz) ∧ base + o.els.length * o.sz ≤ arr.size ∧
    ∀ i j x, (o.els[i]?.bind (·[j]?)) = some x → ∃ u, arr[base + i * o.sz + j]? = some u ∧ u.oneCell' = true ∧ RepV σ s w x u
  inj : ∀ id id' o o' b base base', s[id]? = some o → s[id']? = some o' → o.live = true → σ id = some (b, base) → σ id' = some (b, base') → id = id'
  low : ∀ b, σ.base b → b < w.heap.size
  apart : ∀ id o b base, s[id]? = some o → σ id = some (b, base) → ¬ σ.base b

end Go.VL
