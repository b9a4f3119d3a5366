/- The V-logic, part 16: objects that are written no more are data; the frame and the objects told anew. -/
import Derived.Test.YtafbdphblilenaaVo
namespace Go.VL

def kill1 (s : List Obj) (id : Nat) : List Obj :=
  match s[id]? with
  | some o => s.set id { o with live := false }
  | none => s

def killO (s : List Obj) : List Nat → List Obj
  | [] => s
  | id :: ids => killO (kill1 s id) ids

theorem kill1_get {s : List Obj} {id id' : Nat} {o : Obj} (h : (kill1 s id)[id']? = some o) : ∃ o', s[id']? = some o' ∧ o.g = o'.g ∧ o.sz = o'.sz ∧ o.els = o'.els ∧ (o.live = true → o'.live = true) := by
  unfold kill1 at h
  split at h
  · rename_i o0 ho0
    rw [List.getElem?_set] at h
    split at h
    · rename_i he
      subst he
      split at h
      · simp only [Option.some.injEq] at h; subst h; exact ⟨o0, ho0, rfl, rfl, rfl, fun h => by cases h⟩
      · cases h
    · exact ⟨o, h, rfl, rfl, rfl, fun h => h⟩
  · exact ⟨o, h, rfl, rfl, rfl, fun h => h⟩

theorem kill1_to {s : List Obj} {id id' : Nat} {o : Obj} (h : s[id']? = some o) : ∃ o', (kill1 s id)[id']? = some o' ∧ o'.g = o.g ∧ o'.sz = o.sz := by
  unfold kill1
  split
  · rename_i o0 ho0
    rw [List.getElem?_set]
    split
    · rename_i he
      subst he
      rw [ho0] at h; cases h
      rw [if_pos (List.getElem?_eq_some_iff.1 ho0).1]
      exact ⟨_, rfl, rfl, rfl⟩
    · exact ⟨o, h, rfl, rfl⟩
  · exact ⟨o, h, rfl, rfl⟩

theorem kill1_ok {σ : Gh} {s : List Obj} {w : World} (hI : Inv σ s w) (id : Nat) : Evolve σ s w σ (kill1 s id) w ∧ Inv σ (kill1 s id) w := by
  have own : ∀ b, Own σ (kill1 s id) b → Own σ s b := by
    rintro b (h | ⟨id', o, base, h1, h2, h3⟩)
    · exact .inl h
    · obtain ⟨o', k1, _, _, _, k5⟩ := kill1_get h1
      exact .inr ⟨id', o', base, k1, k5 h2, h3⟩
  have hE : Evolve σ s w σ (kill1 s id) w := ⟨rfl, rfl, rfl, Nat.le_refl _, fun _ _ _ => rfl, fun _ arr _ _ h => ⟨arr, h, rfl⟩, fun b h => .inl (own b h),
    fun id' o ho => let ⟨o', k1, k2, k3⟩ := kill1_to (id := id) ho; ⟨o', k1, by omega, fun _ => ⟨k3, rfl⟩⟩, rfl, fun _ _ _ => rfl⟩
  refine ⟨hE, ⟨fun id' o ho => ?_, fun i i' o o' b base base' h1 h2 h3 h4 h5 => ?_, hI.low, fun i o b base h1 h2 => ?_⟩⟩
  · obtain ⟨o', k1, _, k3, k4, _⟩ := kill1_get ho
    rw [k4, k3]
    rcases hI.content id' o' k1 with h | ⟨b, base, arr, E, h1, h2, h3, h4, h5⟩
    · exact .inl h
    · exact .inr ⟨b, base, arr, E, h1, h2, h3, h4, fun i j x hx => let ⟨u, g1, g2, g3⟩ := h5 i j x hx; ⟨u, g1, g2, g3.evolve hE⟩⟩
  · obtain ⟨p, k1, _, _, _, k5⟩ := kill1_get h1
    obtain ⟨p', l1, _⟩ := kill1_get h2
    exact hI.inj i i' p p' b base base' k1 l1 (k5 h3) h4 h5
  · obtain ⟨p, k1, _⟩ := kill1_get h1
    exact hI.apart i p b base k1 h2

theorem killO_ok {σ : Gh} {w : World} : ∀ (ids : List Nat) (s : List Obj), Inv σ s w → Evolve σ s w σ (killO s ids) w ∧ Inv σ (killO s ids) w
  | [], s, hI => ⟨Evolve.refl _ _ _, hI⟩
  | id :: ids, s, hI => by
    obtain ⟨h1, h2⟩ := kill1_ok hI id
    obtain ⟨k1, k2⟩ := killO_ok ids (kill1 s id) h2
    exact ⟨h1.trans k1, k2⟩

/-- A call to which objects are given for good: the callee sees them as data. -/
theorem call_give {P : Program} {f : FuncId} {args cargs : List V} {s : List Obj} {K : V → List Obj → Prop} (ids : List Nat) (hc : frzV.go (killO s ids).length (killO s ids) args = some cargs) (h : callWp P f cargs (killO s ids) K) : callWp P f args s K := by
  refine ⟨h.1, fun σ w vals hI hl hv => ?_⟩
  obtain ⟨hE, hI'⟩ := killO_ok ids s hI
  obtain ⟨k1, k2⟩ := frzV_go hc
  refine (h.2 σ w vals hI' (by omega) fun i x hx => ?_).mono fun e w' ⟨u, v, σ', s', h1, h2, h3, h4, h5⟩ => ⟨u, v, σ', s', h1, hE.trans h2, h3, h4, h5⟩
  obtain ⟨y, hy, hf⟩ := k2 i x hx
  have := frzV_spec hI' ((hv i y hy).evolve hE) hf
  rwa [List.take_length] at this

/-! ### Cleaning -/

def cleanV (lim : Nat) (s : List Obj) (x : V) : V := (frzV lim s x).getD .any

def cleanE (lim : Nat) (s : List Obj) (keep : List Nat) (e : Env) : Env := fun t => if keep.contains t then cleanV lim s (e t) else .any

def cleanS (lim : Nat) (s : List Obj) : List Obj := (s.take lim).map fun o => { o with els := o.els.map fun c => c.map (cleanV lim s) }

theorem cleanV_spec {σ : Gh} {s : List Obj} {w : World} (hI : Inv σ s w) {lim : Nat} {x : V} {u : Value} (hr : RepV σ s w x u) : RepV σ (s.take lim) w (cleanV lim s x) u := by
  unfold cleanV
  cases h : frzV lim s x with
  | none => exact .any
  | some y => exact frzV_spec hI hr h

theorem Cln.drop {L : Nat} {e : Env} {s : List Obj} (lim : Nat) (hL : L ≤ lim) (keep : List Nat) : Cln L e s (cleanE lim s keep e) (cleanS lim s) := by
  intro σ0 s0 w0 σ w N a hs0 hE hI hR
  have hE1 := hE.take (lim := lim) (by omega)
  have get : ∀ (id : Nat) (o : Obj), (cleanS lim s)[id]? = some o → ∃ o', (s.take lim)[id]? = some o' ∧ o = { o' with els := o'.els.map fun c => c.map (cleanV lim s) } := by
    intro id o ho
    unfold cleanS at ho
    rw [List.getElem?_map] at ho
    obtain ⟨o', h1, h2⟩ := Option.map_eq_some_iff.1 ho
    exact ⟨o', h1, h2.symm⟩
  have hE2 : Evolve σ (s.take lim) w σ (cleanS lim s) w := by
    refine ⟨rfl, rfl, rfl, Nat.le_refl _, fun _ _ _ => rfl, fun _ arr _ _ h => ⟨arr, h, rfl⟩, fun b hb => .inl ?_, fun id o ho => ?_, rfl, fun _ _ _ => rfl⟩
    · rcases hb with h | ⟨id, o, base, h1, h2, h3⟩
      · exact .inl h
      · obtain ⟨o', k1, rfl⟩ := get id o h1
        exact .inr ⟨id, o', base, k1, h2, h3⟩
    · exact ⟨{ o with els := o.els.map fun c => c.map (cleanV lim s) }, by unfold cleanS; rw [List.getElem?_map, ho]; rfl, Nat.le_refl _, fun _ => ⟨rfl, rfl⟩⟩
  refine ⟨hE1.trans hE2, ⟨fun id o ho => ?_, fun i i' o o' b base base' h1 h2 h3 h4 h5 => ?_, hI.low, fun i o b base h1 h2 => ?_⟩, ⟨hR.1, hR.2.1, fun t => ?_⟩⟩
  · obtain ⟨o', k1, rfl⟩ := get id o ho
    have k2 : s[id]? = some o' := by rw [List.getElem?_take] at k1; split at k1 <;> simp_all
    rcases hI.content id o' k2 with ⟨h1, h2⟩ | ⟨b, base, arr, E, h1, h2, h3, h4, h5⟩
    · exact .inl ⟨h1, by simp [h2]⟩
    · refine .inr ⟨b, base, arr, E, h1, h2, fun c hc => ?_, by simpa using h4, fun i j x hx => ?_⟩
      · obtain ⟨c', hc', rfl⟩ := List.mem_map.1 hc
        simpa using h3 c' hc'
      · simp only [List.getElem?_map] at hx
        cases hi : o'.els[i]? with
        | none => simp [hi] at hx
        | some c =>
          simp only [hi, Option.map_some, Option.bind_some, List.getElem?_map] at hx
          obtain ⟨y, hy, rfl⟩ := Option.map_eq_some_iff.1 hx
          obtain ⟨u, g1, g2, g3⟩ := h5 i j y (by simp [hi, hy])
          exact ⟨u, g1, g2, (cleanV_spec hI g3).evolve hE2⟩
  · obtain ⟨p, k1, rfl⟩ := get _ _ h1
    obtain ⟨p', l1, rfl⟩ := get _ _ h2
    have k2 : s[i]? = some p := by rw [List.getElem?_take] at k1; split at k1 <;> simp_all
    have l2 : s[i']? = some p' := by rw [List.getElem?_take] at l1; split at l1 <;> simp_all
    exact hI.inj i i' p p' b base base' k2 l2 h3 h4 h5
  · obtain ⟨p, k1, rfl⟩ := get _ _ h1
    have k2 : s[i]? = some p := by rw [List.getElem?_take] at k1; split at k1 <;> simp_all
    exact hI.apart i p b base k2 h2
  · unfold cleanE
    split
    · exact (cleanV_spec hI (hR.2.2 t)).evolve hE2
    · exact .any

theorem Cln.kill {L : Nat} {e : Env} {s : List Obj} (ids : List Nat) : Cln L e s e (killO s ids) := by
  intro σ0 s0 w0 σ w N a hs0 hE hI hR
  obtain ⟨h1, h2⟩ := killO_ok ids s hI
  exact ⟨hE.trans h1, h2, hR.evolve h1⟩

/-- The end of a loop's body: what lies behind object lim is forgotten or told as data. -/
theorem Cln.dropKill {L : Nat} {e : Env} {s : List Obj} (ids : List Nat) (lim : Nat) (hL : L ≤ lim) (keep : List Nat) : Cln L e s (cleanE lim (killO s ids) keep e) (cleanS lim (killO s ids)) :=
  (Cln.kill ids).trans (Cln.drop lim hL keep)

end Go.VL
