/- The V-logic, part 12: a function's result, its contract; calls by contract. -/
import Derived.Test.YtafbdphblilenaaVk
namespace Go.VL

/-! ### Freezing: a slice of the call's own becomes data -/

def frzD : Nat → Nat → List Obj → V → Option D
  | _, _, _, .d x => some x
  | _, _, _, .fu els => some (.sl els)
  | n + 1, lim, s, .so id g lo m => match s[id]? with
    | some o => if o.g = g ∧ lo + m ≤ o.els.length ∧ (lim ≤ id ∨ o.live = false) then
        (((o.els.drop lo).take m).mapM fun (e : List V) => e.mapM (frzD n lim s)).map .sl else none
    | none => none
  | n + 1, lim, s, .rf id g k off => match s[id]? with
    | some o => if o.g = g ∧ (lim ≤ id ∨ o.live = false) then
        (match o.els[k]? with
        | some e => ((e.drop off).mapM (frzD n lim s)).map .el
        | none => none) else none
    | none => none
  | _, _, _, _ => none

theorem frzD_spec {σ : Gh} {s : List Obj} {w : World} (hI : Inv σ s w) (lim : Nat) : ∀ (n : Nat) (x : V) (u : Value) (y : D), RepV σ s w x u → frzD n lim s x = some y → RepD (Own σ (s.take lim)) w y u := by
  have fewer : ∀ b, Own σ (s.take lim) b → Own σ s b := by
    rintro b (h | ⟨id, o, base, h1, h2, h3⟩)
    · exact .inl h
    · rw [List.getElem?_take] at h1
      split at h1
      · exact .inr ⟨id, o, base, h1, h2, h3⟩
      · cases h1
  intro n
  induction n with
  | zero =>
    intro x u y hr h
    cases hr <;> simp only [frzD, Option.some.injEq] at h <;> first | (cases h; done) | (subst h; exact RepD.own fewer (by assumption))
  | succ n ih =>
    intro x u y hr h
    cases hr with
    | d h' => simp only [frzD, Option.some.injEq] at h; subst h; exact RepD.own fewer h'
    | fu h' => simp only [frzD, Option.some.injEq] at h; subst h; exact RepD.own fewer h'
    | so o ho hg hu hk =>
      rename_i id g lo m
      simp only [frzD, ho] at h
      split at h
      case isFalse => cases h
      rename_i hc
      obtain ⟨hgg, hlen, hlim⟩ := hc
      obtain ⟨els, hels, rfl⟩ := Option.map_eq_some_iff.1 h
      obtain ⟨m1, m2⟩ := mapM_get hels
      have hl : els.length = m := by rw [m1]; simp; omega
      rcases hk hgg with ⟨hs0, ⟨a, rfl⟩, rfl, rfl⟩ | ⟨b, base, cap, E, arr, g1, g2, rfl, g4, g5⟩
      · have : els = [] := List.eq_nil_of_length_eq_zero hl
        subst this
        cases a with
        | none => exact .nil
        | some a => exact RepD.sl [] a 0 0 (fun _ _ => undef) (by simp) (by simp) (by simp) (by simp) (by simp)
      · rcases hI.content _ o ho with ⟨h1, _⟩ | ⟨b', base', arr', E', h1, h2, h3, h4, h5⟩
        · rw [g1] at h1; cases h1
        rw [g1] at h1; cases h1
        rw [g2] at h2; cases h2
        have hO : ¬ Own σ (s.take lim) b := by
          rintro (h | ⟨id', o', base', k1, k2, k3⟩)
          · exact hI.apart _ o b base ho g1 h
          · rw [List.getElem?_take] at k1
            split at k1
            · rename_i hlt
              have := hI.inj id' id o' o b base' base k1 ho k2 k3 g1
              subst this
              rcases hlim with h | h
              · omega
              · rw [ho] at k1; cases k1; rw [h] at k2; cases k2
            · cases k1
        rw [← hl]
        refine RepD.of_row (sz := o.sz) (by omega) (fun e he => ?_) hO (fun i j x hx => ?_)
        · obtain ⟨i, hi⟩ := List.mem_iff_getElem?.1 he
          obtain ⟨e', k1, k2⟩ := m2 i e hi
          rw [(mapM_get k2).1]
          exact h3 e' (List.mem_of_mem_drop (List.mem_of_mem_take (List.mem_of_getElem? k1)))
        · cases hi : els[i]? with
          | none => rw [hi] at hx; cases hx
          | some e =>
            rw [hi] at hx
            obtain ⟨e', k1, k2⟩ := m2 i e hi
            obtain ⟨v, k3, k4⟩ := (mapM_get k2).2 j x hx
            rw [List.getElem?_take] at k1
            split at k1
            case isFalse => cases k1
            rw [List.getElem?_drop] at k1
            obtain ⟨c, c1, c2, c3⟩ := h5 (lo + i) j v (by rw [k1]; exact k3)
            refine ⟨c, ?_, ih v c x c3 k4⟩
            simp only [World.cell?, g2]
            rw [Nat.add_mul] at c1
            simpa [Nat.add_assoc] using c1
    | rf o ho hg hu hk =>
      rename_i id g k off
      simp only [frzD, ho] at h
      split at h
      case isFalse => cases h
      rename_i hc
      obtain ⟨hgg, hlim⟩ := hc
      split at h
      case h_2 => cases h
      rename_i e he
      obtain ⟨cs, hcs, rfl⟩ := Option.map_eq_some_iff.1 h
      obtain ⟨m1, m2⟩ := mapM_get hcs
      obtain ⟨b, base, g1, rfl⟩ := hk hgg
      rcases hI.content _ o ho with ⟨h1, _⟩ | ⟨b', base', arr', E', h1, h2, h3, h4, h5⟩
      · rw [g1] at h1; cases h1
      rw [g1] at h1; cases h1
      have hO : ¬ Own σ (s.take lim) b := by
        rintro (h | ⟨id', o', base', k1, k2, k3⟩)
        · exact hI.apart _ o b base ho g1 h
        · rw [List.getElem?_take] at k1
          split at k1
          · rename_i hlt
            have := hI.inj id' id o' o b base' base k1 ho k2 k3 g1
            subst this
            rcases hlim with h | h
            · omega
            · rw [ho] at k1; cases k1; rw [h] at k2; cases k2
          · cases k1
      have key : ∀ j x, cs[j]? = some x → ∃ c, w.cell? ⟨b, base + k * o.sz + off + j, none⟩ = some c ∧ RepD (Own σ (s.take lim)) w x c := by
        intro j x hx
        obtain ⟨v, k3, k4⟩ := m2 j x hx
        rw [List.getElem?_drop] at k3
        obtain ⟨c, c1, c2, c3⟩ := h5 k (off + j) v (by rw [he]; exact k3)
        refine ⟨c, ?_, ih v c x c3 k4⟩
        simp only [World.cell?, h2]
        simpa [Nat.add_assoc] using c1
      refine .el cs _ (fun j => (w.cell? ⟨b, base + k * o.sz + off + j, none⟩).getD undef) rfl (fun j x hx => ⟨?_, hO⟩) (fun j x hx => ?_)
      · obtain ⟨c, h1, _⟩ := key j x hx
        simp only [h1, Option.getD_some]
      · obtain ⟨c, h1, h2'⟩ := key j x hx
        simp only [h1, Option.getD_some]
        exact h2'
    | _ => simp [frzD] at h

/-- The references in a value all lie below lim. -/
def refsV (lim : Nat) : V → Bool
  | .d _ | .fu _ | .un => true
  | .so id _ _ _ => decide (id < lim)
  | .rf id _ _ _ => decide (id < lim)
  | .ag cs => go cs
  | .tu cs => go cs
  | .cl _ first caps => go first && go caps
  | .any => true
where go : List V → Bool
  | [] => true
  | v :: vs => refsV lim v && go vs

theorem refsV_go {lim : Nat} : ∀ {l : List V}, refsV.go lim l = true → ∀ (i : Nat) (x : V), l[i]? = some x → refsV lim x = true
  | [], _, i, x, hx => by simp at hx
  | v :: vs, h, i, x, hx => by
    simp only [refsV.go, Bool.and_eq_true] at h
    cases i with
    | zero => simp at hx; subst hx; exact h.1
    | succ i => exact refsV_go h.2 i x (by simpa using hx)

theorem RepV.take {σ : Gh} {s : List Obj} {w : World} {lim : Nat} {x : V} {u : Value} (hr : RepV σ s w x u) (h : refsV lim x = true) : RepV σ (s.take lim) w x u := by
  have fewer : ∀ b, Own σ (s.take lim) b → Own σ s b := by
    rintro b (h | ⟨id, o, base, h1, h2, h3⟩)
    · exact .inl h
    · rw [List.getElem?_take] at h1
      split at h1
      · exact .inr ⟨id, o, base, h1, h2, h3⟩
      · cases h1
  induction hr with
  | d hx => exact .d (hx.own fewer)
  | ag h1 h2 _ ih => exact .ag h1 h2 fun i x hx => ih i x hx (refsV_go (by simpa only [refsV] using h) i x hx)
  | tu h1 _ ih => exact .tu h1 fun i x hx => ih i x hx (refsV_go (by simpa only [refsV] using h) i x hx)
  | fu hx => exact .fu (hx.own fewer)
  | so o ho hg hu hk =>
    simp only [refsV, decide_eq_true_eq] at h
    exact .so o (by rw [List.getElem?_take, if_pos h]; exact ho) hg hu hk
  | rf o ho hg hu hk =>
    simp only [refsV, decide_eq_true_eq] at h
    exact .rf o (by rw [List.getElem?_take, if_pos h]; exact ho) hg hu hk
  | cl h1 _ h3 _ ih1 ih2 =>
    simp only [refsV, Bool.and_eq_true] at h
    exact .cl h1 (fun i x hx => ih1 i x hx (refsV_go h.1 i x hx)) h3 (fun i x hx => ih2 i x hx (refsV_go h.2 i x hx))
  | un => exact .un
  | any => exact .any

/-- What a function hands back: as data where it can be. -/
def frzV (lim : Nat) (s : List Obj) : V → Option V
  | .d x => some (.d x)
  | .fu els => some (.d (.sl els))
  | .so id g lo m => match frzD 8 lim s (.so id g lo m) with
    | some x => some (.d x)
    | none => if id < lim then some (.so id g lo m) else none
  | .rf id g i off => match frzD 8 lim s (.rf id g i off) with
    | some x => some (.d x)
    | none => if id < lim then some (.rf id g i off) else none
  | .ag cs => (go cs).map .ag
  | .tu cs => (go cs).map .tu
  | .cl fn first caps => if refsV lim (.cl fn first caps) then some (.cl fn first caps) else none
  | .un => some .un
  | .any => some .any
where go : List V → Option (List V)
  | [] => some []
  | v :: vs => match frzV lim s v, go vs with
    | some v', some vs' => some (v' :: vs')
    | _, _ => none

theorem frzV_go {lim : Nat} {s : List Obj} : ∀ {l r : List V}, frzV.go lim s l = some r → r.length = l.length ∧ ∀ (i : Nat) (y : V), r[i]? = some y → ∃ x, l[i]? = some x ∧ frzV lim s x = some y
  | [], r, h => by simp [frzV.go] at h; subst h; simp
  | v :: vs, r, h => by
    simp only [frzV.go] at h
    split at h
    · rename_i v' vs' h1 h2
      simp only [Option.some.injEq] at h
      subst h
      obtain ⟨k1, k2⟩ := frzV_go h2
      refine ⟨by simp [k1], fun i y hy => ?_⟩
      cases i with
      | zero => simp at hy; subst hy; exact ⟨v, rfl, h1⟩
      | succ i => simpa using k2 i y (by simpa using hy)
    · cases h

theorem frzV_spec {σ : Gh} {s : List Obj} {w : World} (hI : Inv σ s w) {lim : Nat} {x : V} {u : Value} (hr : RepV σ s w x u) : ∀ {y : V}, frzV lim s x = some y → RepV σ (s.take lim) w y u := by
  have fewer : ∀ b, Own σ (s.take lim) b → Own σ s b := by
    rintro b (h | ⟨id, o, base, h1, h2, h3⟩)
    · exact .inl h
    · rw [List.getElem?_take] at h1
      split at h1
      · exact .inr ⟨id, o, base, h1, h2, h3⟩
      · cases h1
  induction hr with
  | d hx => intro y h; simp only [frzV, Option.some.injEq] at h; subst h; exact .d (hx.own fewer)
  | fu hx => intro y h; simp only [frzV, Option.some.injEq] at h; subst h; exact .d (hx.own fewer)
  | so o ho hg hu hk =>
    intro y h
    simp only [frzV] at h
    split at h
    · rename_i z hz
      simp only [Option.some.injEq] at h
      subst h
      exact .d (frzD_spec hI lim 8 _ _ z (.so o ho hg hu hk) hz)
    · split at h
      · simp only [Option.some.injEq] at h
        subst h
        exact RepV.take (.so o ho hg hu hk) (by simpa [refsV] using ‹_›)
      · cases h
  | rf o ho hg hu hk =>
    intro y h
    simp only [frzV] at h
    split at h
    · rename_i z hz
      simp only [Option.some.injEq] at h
      subst h
      exact .d (frzD_spec hI lim 8 _ _ z (.rf o ho hg hu hk) hz)
    · split at h
      · simp only [Option.some.injEq] at h
        subst h
        exact RepV.take (.rf o ho hg hu hk) (by simpa [refsV] using ‹_›)
      · cases h
  | ag h1 h2 _ ih =>
    intro y h
    simp only [frzV] at h
    obtain ⟨cs, hcs, rfl⟩ := Option.map_eq_some_iff.1 h
    obtain ⟨k1, k2⟩ := frzV_go hcs
    refine .ag (by omega) (fun i x hx => ?_) (fun i x hx => ?_)
    · obtain ⟨z, hz, _⟩ := k2 i x hx; exact h2 i z hz
    · obtain ⟨z, hz, hz'⟩ := k2 i x hx; exact ih i z hz hz'
  | tu h1 _ ih =>
    intro y h
    simp only [frzV] at h
    obtain ⟨cs, hcs, rfl⟩ := Option.map_eq_some_iff.1 h
    obtain ⟨k1, k2⟩ := frzV_go hcs
    refine .tu (by omega) (fun i x hx => ?_)
    obtain ⟨z, hz, hz'⟩ := k2 i x hx; exact ih i z hz hz'
  | cl h1 h2 h3 h4 =>
    intro y h
    simp only [frzV] at h
    split at h
    · simp only [Option.some.injEq] at h
      subst h
      exact RepV.take (.cl h1 h2 h3 h4) (by assumption)
    · cases h
  | un => intro y h; simp only [frzV, Option.some.injEq] at h; subst h; exact .un
  | any => intro y h; simp only [frzV, Option.some.injEq] at h; subst h; exact .any

/-! ### The end of a function -/

def objOk (lim : Nat) (o : Obj) : Bool := o.els.all fun e => e.all (refsV lim)

def finWp (lim : Nat) (s : List Obj) (r : V) (K : V → List Obj → Prop) : Prop :=
  (s.take lim).all (objOk lim) = true ∧ match frzV lim s r with
    | some r' => K r' (s.take lim)
    | none => False

theorem Evolve.take {σ s w σ' s' w'} (h : Evolve σ s w σ' s' w') {lim : Nat} (hl : s.length ≤ lim) : Evolve σ s w σ' (s'.take lim) w' := by
  refine ⟨h.os, h.tape, h.output, h.size, h.keep, h.shape, fun b hb => h.own b ?_, fun id o ho => ?_, h.base, h.foreign⟩
  · rcases hb with hb | ⟨id, o, base, h1, h2, h3⟩
    · exact .inl hb
    · rw [List.getElem?_take] at h1
      split at h1
      · exact .inr ⟨id, o, base, h1, h2, h3⟩
      · cases h1
  · obtain ⟨o', h1, h2⟩ := h.objs id o ho
    have := (List.getElem?_eq_some_iff.1 ho).1
    exact ⟨o', by rw [List.getElem?_take, if_pos (by omega)]; exact h1, h2⟩

theorem Inv.take {σ : Gh} {s : List Obj} {w : World} (h : Inv σ s w) {lim : Nat} (ho : (s.take lim).all (objOk lim) = true) : Inv σ (s.take lim) w := by
  have get : ∀ (id : Nat) (o : Obj), (s.take lim)[id]? = some o → s[id]? = some o := by
    intro id o hh
    rw [List.getElem?_take] at hh
    split at hh
    · exact hh
    · cases hh
  refine ⟨fun id o hh => ?_, fun id id' o o' b base base' h1 h2 => h.inj id id' o o' b base base' (get _ _ h1) (get _ _ h2), h.low, fun id o b base h1 => h.apart id o b base (get _ _ h1)⟩
  rcases h.content id o (get _ _ hh) with h1 | ⟨b, base, arr, E, h1, h2, h3, h4, h5⟩
  · exact .inl h1
  · refine .inr ⟨b, base, arr, E, h1, h2, h3, h4, fun i j x hx => ?_⟩
    obtain ⟨u, k1, k2, k3⟩ := h5 i j x hx
    refine ⟨u, k1, k2, k3.take ?_⟩
    have hobj := List.all_eq_true.1 ho o (List.mem_of_getElem? hh)
    cases hei : o.els[i]? with
    | none => rw [hei] at hx; cases hx
    | some e =>
      rw [hei] at hx
      exact List.all_eq_true.1 (List.all_eq_true.1 hobj e (List.mem_of_getElem? hei)) x (List.mem_of_getElem? hx)

def resV (P : Program) (e : Env) (s : List Obj) (r : ResultVar) (K : V → Prop) : Prop :=
  match r with
  | .tmp t => K (e t)
  | .cell a t => loadWp P t s (e a) K

def resL (P : Program) (e : Env) (s : List Obj) : List ResultVar → List V → (List V → Prop) → Prop
  | [], acc, K => K acc
  | r :: rs, acc, K => resV P e s r fun v => resL P e s rs (acc ++ [v]) K

def resWp (P : Program) (rs : List ResultVar) (e : Env) (s : List Obj) (K : V → Prop) : Prop :=
  resL P e s rs [] fun vs => match vs with
    | [v] => K v
    | vs => K (.tu vs)

def resF (tmps : Array Value) : ResultVar → Sem Value
  | .tmp t => pure (tmps.getD t undef)
  | .cell x t => do loadVar t (← asAddr (tmps.getD x undef))

theorem results_eq (fn : Func) (tmps : Array Value) : results fn tmps = (do let vs ← fn.results.mapM (resF tmps); pure (if h : vs.size = 1 then vs[0] else .tuple vs)) := by
  unfold results
  congr 1

theorem resV_sound {P : Program} {N : Nat} {σ : Gh} {s : List Obj} {w : World} {e : Env} {a : Act} {r : ResultVar} {K : V → Prop} (hI : Inv σ s w) (hR : RepE σ s w N e a) (h : resV P e s r K) :
    ∃ v c, (resF a.tmps r).run P w = .ok c w ∧ RepV σ s w v c ∧ K v := by
  cases r with
  | tmp t => exact ⟨e t, _, rfl, hR.2.2 t, h⟩
  | cell x t =>
    simp only [resV] at h
    have hx := hR.2.2 x
    generalize hcv : a.tmps.getD x undef = c at hx
    obtain ⟨v, r, k1, k2, k3⟩ := load_sound hI hx h
    have hp : ∃ ad, c = .pointer (some ad) := by
      unfold loadWp at h
      split at h
      · exact h.elim
      · split at h
        · rename_i hh
          rw [hh] at hx
          cases hx with | d hx => ?_
          cases hx with | el _ ad _ _ _ _ => exact ⟨ad, rfl⟩
        · rename_i hh
          rw [hh] at hx
          split at h
          · exact h.elim
          · rename_i o ho
            obtain ⟨b, base, _, hp⟩ := rf_ptr hx ho h.1
            exact ⟨_, hp⟩
        · exact h.elim
    obtain ⟨ad, rfl⟩ := hp
    refine ⟨v, r, ?_, k2, k3⟩
    simp only [resF, hcv, asAddr, Sem.run_bind, Sem.run_pure, Result.andThen_ok]
    simpa [Instr.loadAt, Instr.sureAddr] using k1

theorem resL_sound {P : Program} {N : Nat} {σ : Gh} {s : List Obj} {w : World} {e : Env} {a : Act} (hI : Inv σ s w) (hR : RepE σ s w N e a) : ∀ (rs : List ResultVar) (acc : List V) (K : List V → Prop), resL P e s rs acc K →
    ∃ vs us, (rs.mapM (resF a.tmps)).run P w = .ok us w ∧ us.length = vs.length ∧
      (∀ (i : Nat) (x : V), vs[i]? = some x → ∃ u, us[i]? = some u ∧ RepV σ s w x u) ∧ K (acc ++ vs)
  | [], acc, K, h => ⟨[], [], by simp, rfl, by simp, by simpa [resL] using h⟩
  | r :: rs, acc, K, h => by
    simp only [resL] at h
    obtain ⟨v, c, k1, k2, k3⟩ := resV_sound hI hR h
    obtain ⟨vs, us, m1, m2, m3, m4⟩ := resL_sound hI hR rs _ K k3
    refine ⟨v :: vs, c :: us, ?_, by simp [m2], fun i x hx => ?_, by simpa using m4⟩
    · rw [List.mapM_cons, Sem.run_bind, k1, Result.andThen_ok, Sem.run_bind, m1, Result.andThen_ok]
      rfl
    · cases i with
      | zero => simp at hx; subst hx; exact ⟨c, rfl, k2⟩
      | succ i => simpa using m3 i x (by simpa using hx)

theorem resWp_sound {P : Program} {N : Nat} {σ : Gh} {s : List Obj} {w : World} {e : Env} {a : Act} {fn : Func} {K : V → Prop} (hI : Inv σ s w) (hR : RepE σ s w N e a) (h : resWp P fn.results.toList e s K) :
    ∃ v c, (results fn a.tmps).run P w = .ok c w ∧ RepV σ s w v c ∧ K v := by
  obtain ⟨vs, us, m1, m2, m3, m4⟩ := resL_sound hI hR _ _ _ h
  have hrun : (results fn a.tmps).run P w = .ok (if h : us.toArray.size = 1 then us.toArray[0] else .tuple us.toArray) w := by
    rw [results_eq]
    rw [← Array.toArray_toList (xs := fn.results), List.mapM_toArray]
    simp only [Sem.run_bind, Sem.run_map, m1, Result.andThen_ok, Sem.run_pure]
  rw [hrun]
  simp only [List.nil_append] at m4
  split at m4
  · rename_i v
    have hlen : us.length = 1 := by simpa using m2
    obtain ⟨u, hu, hru⟩ := m3 0 v rfl
    refine ⟨v, u, ?_, hru, m4⟩
    rw [dif_pos (by simpa using hlen)]
    have := (List.getElem?_eq_some_iff.1 hu).2
    simp [this]
  · rename_i hne
    have hlen : us.length ≠ 1 := by
      intro hh
      rw [m2] at hh
      match vs, hh, hne with
      | [v], _, hne => exact hne v rfl
    refine ⟨.tu vs, .tuple us.toArray, by rw [dif_neg (by simpa using hlen)], .tu (by simpa using m2) (fun i x hx => ?_), m4⟩
    obtain ⟨u, hu, hru⟩ := m3 i x hx
    rw [getD_of_list hu]
    exact hru

def envOf : List V → Env
  | [], _ => .un
  | v :: _, 0 => v
  | _ :: l, n + 1 => envOf l n

theorem envOf_get : ∀ (l : List V) (t : Nat), envOf l t = (l[t]?).getD .un
  | [], t => by simp [envOf]
  | v :: l, 0 => rfl
  | v :: l, t + 1 => by simp [envOf, envOf_get l t]

def Qend : Exit → Prop
  | .normal => True
  | .ret => True
  | _ => False

theorem Qend_spec {ex : Exit} (h : Qend ex) : ex = .normal ∨ ex = .ret := by
  cases ex <;> simp_all [Qend]

/-- What holds where a function ends. -/
def Qfin (P : Program) (rs : List ResultVar) (lim : Nat) (K : V → List Obj → Prop) (ex : Exit) (e : Env) (s : List Obj) : Prop := Qend ex ∧ resWp P rs e s fun r => finWp lim s r K

theorem Qfin_app {P : Program} {rs : List ResultVar} {lim : Nat} {K : V → List Obj → Prop} {ex : Exit} {e : Env} {s : List Obj} : Qfin P rs lim K ex e s = (Qend ex ∧ resWp P rs e s fun r => finWp lim s r K) := rfl

/-- A function's contract, out of its text. -/
theorem fn_ok {P : Program} {f : FuncId} {fn : Func} {c : Code} {args : List V} {exts : List Obj} {K : V → List Obj → Prop} (hf : P.funcs[f]? = some fn) (hb : fn.body = some c) {N : Nat} (hN : fn.ntmps = N) {rs : Array ResultVar} (hrs : fn.results = rs) (hn : (fn.name != "runtime.NumGoroutine") = true)
    (lim M : Nat) (hl : exts.length ≤ lim) (ha : args.length ≤ N)
    (h : codeWp P N lim M c (Qfin P rs.toList lim K) (envOf args) exts) : callWp P f args exts K := by
  subst hN; subst hrs
  refine ⟨by simp only [okFn, hf, hn, hb, Option.isSome_some, Bool.and_self], fun σ w vals hI hvl hv => ?_⟩
  refine calls_of_wp hf hb ?_
  have hR : RepE σ exts w fn.ntmps (envOf args) { tmps := vals ++ Array.replicate (fn.ntmps - vals.size) undef, defers := [] } := by
    refine ⟨rfl, by simp; omega, fun t => ?_⟩
    rw [envOf_get]
    by_cases ht : t < args.length
    · have h1 := hv t args[t] (by simp [ht])
      have : (vals ++ Array.replicate (fn.ntmps - vals.size) undef).getD t undef = vals.getD t undef := by
        rw [Array.getD_eq_getD_getElem?, Array.getElem?_append_left (by omega), Array.getD_eq_getD_getElem?]
      rw [this]
      simpa [ht] using h1
    · have : (vals ++ Array.replicate (fn.ntmps - vals.size) undef).getD t undef = undef := by
        rw [Array.getD_eq_getD_getElem?, Array.getElem?_append_right (by omega), Array.getElem?_replicate]
        split <;> rfl
      rw [this]
      simp [ht]
      exact .un
  refine wp_mono (codeWp_sound hl c _ (envOf args) exts σ w _ (Evolve.refl _ _ _) hI hR h) fun ex a' w' ⟨e', σ', s', hE, hI', hR', hex, hq⟩ => ?_
  obtain ⟨v, u, k1, k2, k3⟩ := resWp_sound hI' hR' hq
  obtain ⟨h1, h2⟩ := k3
  have fin : a'.defers = [] ∧ ∃ v, (results fn a'.tmps).run P w' = .ok v w' ∧ ∃ u v_1 σ'_1 s'_1, Ending.returned v = .returned u ∧ Evolve σ exts w σ'_1 s'_1 w' ∧ Inv σ'_1 s'_1 w' ∧ RepV σ'_1 s'_1 w' v_1 u ∧ K v_1 s'_1 := by
    refine ⟨hR'.1, u, k1, ?_⟩
    split at h2
    · rename_i r' hr'
      exact ⟨u, r', σ', s'.take lim, rfl, hE.take hl, hI'.take h1, frzV_spec hI' k2 hr', h2⟩
    · exact h2.elim
  rcases Qend_spec hex with rfl | rfl
  · exact fin
  · exact fin

end Go.VL
