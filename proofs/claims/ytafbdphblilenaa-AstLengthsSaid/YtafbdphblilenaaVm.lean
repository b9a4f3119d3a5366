/- The V-logic, part 13: calls by contract. -/
import Derived.Test.YtafbdphblilenaaVl
namespace Go.VL

theorem callWp_mono {P : Program} {f : FuncId} {args : List V} {s : List Obj} {K K' : V → List Obj → Prop} (h : callWp P f args s K) (hk : ∀ v s', K v s' → K' v s') : callWp P f args s K' :=
  ⟨h.1, fun σ w vals hI hl hv => (h.2 σ w vals hI hl hv).mono fun _ _ ⟨u, v, σ', s', a, b, c, d, e⟩ => ⟨u, v, σ', s', a, b, c, d, hk v s' e⟩⟩

theorem RepV.move {σ σ' : Gh} {s s' : List Obj} {w : World} {x : V} {u : Value} (hr : RepV σ s w x u) (h : refsV 0 x = true) (fewer : ∀ b, Own σ' s' b → Own σ s b) : RepV σ' s' w x u := by
  induction hr with
  | d hx => exact .d (hx.own fewer)
  | ag h1 h2 _ ih => exact .ag h1 h2 fun i x hx => ih i x hx (refsV_go (by simpa only [refsV] using h) i x hx)
  | tu h1 _ ih => exact .tu h1 fun i x hx => ih i x hx (refsV_go (by simpa only [refsV] using h) i x hx)
  | fu hx => exact .fu (hx.own fewer)
  | so o ho hg hu hk => simp [refsV] at h
  | rf o ho hg hu hk => simp [refsV] at h
  | cl h1 _ h3 _ ih1 ih2 =>
    simp only [refsV, Bool.and_eq_true] at h
    exact .cl h1 (fun i x hx => ih1 i x hx (refsV_go h.1 i x hx)) h3 (fun i x hx => ih2 i x hx (refsV_go h.2 i x hx))
  | un => exact .un
  | any => exact .any

theorem refsV_go_d (lim : Nat) (l : List D) : refsV.go lim (l.map .d) = true := by
  induction l with
  | nil => rfl
  | cons x l ih => simp [refsV.go, refsV, ih]

/-- Data in, data out; nothing else. -/
def PureOK (P : Program) (f : FuncId) (args : List V) (r : V) : Prop := callWp P f args [] fun v s' => v = r ∧ s' = []

theorem call_pure {P : Program} {f : FuncId} {args : List V} {r : V} {s : List Obj} {K : V → List Obj → Prop} (h : PureOK P f args r) (ha : refsV.go 0 args = true) (hr : refsV 0 r = true) (hk : K r s) : callWp P f args s K := by
  refine ⟨h.1, fun σ w vals hI hl hv => ?_⟩
  have e1 : ∀ b, Own ⟨fun _ => none, Own σ s⟩ [] b → Own σ s b := by
    rintro b (h | ⟨id, o, base, h1, _⟩)
    · exact h
    · simp at h1
  refine (h.2 ⟨fun _ => none, Own σ s⟩ w vals ⟨fun id o ho => by simp at ho, fun id _ o _ _ _ _ ho => by simp at ho, fun b hb => own_lt hI hb, fun id o _ _ ho => by simp at ho⟩ hl
    (fun i x hx => (hv i x hx).move (refsV_go ha i x hx) e1)).mono fun e w' ⟨u, v, σ', s', he, hE, hI', hR, hv', hs'⟩ => ?_
  subst hv'; subst hs'
  have same := same_obj (w' := w') hI hE.os hE.tape hE.output hE.size fun b hb => by
    by_cases ho : Own σ s b
    · exact hE.foreign b hb ho
    · exact hE.keep b hb fun h' => ho (e1 b h')
  refine ⟨u, _, σ, s, he, same.1, same.2, hR.move hr fun b hb => .inl ?_, hk⟩
  rw [hE.base]; exact hb

/-! ### A callee that is handed objects of the caller's -/

def renV (ρ : List Nat) : V → V
  | .so id g lo n => .so (ρ.getD id 0) g lo n
  | .rf id g i off => .rf (ρ.getD id 0) g i off
  | .ag cs => .ag (go cs)
  | .tu cs => .tu (go cs)
  | .cl fn first caps => .cl fn (go first) (go caps)
  | .d x => .d x
  | .fu els => .fu els
  | .un => .un
  | .any => .any
where go : List V → List V
  | [] => []
  | v :: vs => renV ρ v :: go vs

theorem renV_go (ρ : List Nat) : ∀ (l : List V), renV.go ρ l = l.map (renV ρ)
  | [] => rfl
  | v :: vs => by simp [renV.go, renV_go ρ vs]

def renO (ρ : List Nat) (o : Obj) : Obj := { o with els := o.els.map (renV.go ρ) }

def putObjs (s : List Obj) : List Nat → List Obj → List Obj
  | r :: ρ, o :: os => putObjs (s.set r o) ρ os
  | _, _ => s

theorem putObjs_length : ∀ (ρ : List Nat) (os : List Obj) (s : List Obj), (putObjs s ρ os).length = s.length
  | [], _, s => by simp [putObjs]
  | r :: ρ, [], s => by simp [putObjs]
  | r :: ρ, o :: os, s => by simp [putObjs, putObjs_length ρ os]

theorem putObjs_other : ∀ (ρ : List Nat) (os : List Obj) (s : List Obj) (id : Nat), id ∉ ρ → (putObjs s ρ os)[id]? = s[id]?
  | [], _, s, id, _ => by simp [putObjs]
  | r :: ρ, [], s, id, _ => by simp [putObjs]
  | r :: ρ, o :: os, s, id, h => by
    simp only [List.mem_cons, not_or] at h
    simp only [putObjs]
    rw [putObjs_other ρ os _ id h.2, List.getElem?_set_ne (Ne.symm h.1)]

theorem putObjs_at : ∀ (ρ : List Nat) (os : List Obj) (s : List Obj) (k r : Nat) (o : Obj), ρ.Nodup → ρ[k]? = some r → os[k]? = some o → r < s.length → (putObjs s ρ os)[r]? = some o
  | [], _, s, k, r, o, _, h, _, _ => by simp at h
  | r' :: ρ, [], s, k, r, o, _, _, h, _ => by simp at h
  | r' :: ρ, o' :: os, s, k, r, o, hn, h1, h2, h3 => by
    simp only [List.nodup_cons] at hn
    simp only [putObjs]
    cases k with
    | zero =>
      simp only [List.getElem?_cons_zero, Option.some.injEq] at h1 h2
      subst h1; subst h2
      rw [putObjs_other ρ os _ r' hn.1, List.getElem?_set_self h3]
    | succ k => exact putObjs_at ρ os _ k r o hn.2 (by simpa using h1) (by simpa using h2) (by simpa using h3)

section frame
variable {σ : Gh} {s exts : List Obj} {ρ : List Nat} {w : World}

theorem ren_down {σc : Gh} (hown : ∀ b, Own σc exts b → Own σ s b) (hs : ∀ (k : Nat) (o : Obj), exts[k]? = some o → s[ρ.getD k 0]? = some (renO ρ o)) (hσ : ∀ k, k < exts.length → σc k = σ (ρ.getD k 0))
    {y : V} {u : Value} (hr : RepV σ s w y u) : ∀ {x : V}, renV ρ x = y → refsV exts.length x = true → RepV σc exts w x u := by
  induction hr with
  | d hx => intro x he hh; cases x <;> simp only [renV, reduceCtorEq, V.d.injEq] at he; subst he; exact .d (hx.own hown)
  | fu hx => intro x he hh; cases x <;> simp only [renV, reduceCtorEq, V.fu.injEq] at he; subst he; exact .fu (hx.own hown)
  | un => intro x he hh; cases x <;> simp only [renV, reduceCtorEq] at he; exact .un
  | any => intro x he hh; cases x <;> simp only [renV, reduceCtorEq] at he; exact .any
  | ag h1 h2 _ ih =>
    intro x he hh
    cases x <;> simp only [renV, reduceCtorEq, V.ag.injEq] at he
    rename_i cs
    subst he
    rw [renV_go] at h1 h2 ih
    have g : ∀ (i : Nat) (x : V), cs[i]? = some x → (cs.map (renV ρ))[i]? = some (renV ρ x) := fun i x hx => by rw [List.getElem?_map, hx]; rfl
    exact .ag (by simpa using h1) (fun i x hx => h2 i _ (g i x hx)) (fun i x hx => ih i _ (g i x hx) rfl (refsV_go (by simpa only [refsV] using hh) i x hx))
  | tu h1 _ ih =>
    intro x he hh
    cases x <;> simp only [renV, reduceCtorEq, V.tu.injEq] at he
    rename_i cs
    subst he
    rw [renV_go] at h1 ih
    have g : ∀ (i : Nat) (x : V), cs[i]? = some x → (cs.map (renV ρ))[i]? = some (renV ρ x) := fun i x hx => by rw [List.getElem?_map, hx]; rfl
    exact .tu (by simpa using h1) (fun i x hx => ih i _ (g i x hx) rfl (refsV_go (by simpa only [refsV] using hh) i x hx))
  | cl h1 _ h3 _ ih1 ih2 =>
    intro x he hh
    cases x <;> simp only [renV, reduceCtorEq, V.cl.injEq] at he
    rename_i fn first caps
    obtain ⟨rfl, rfl, rfl⟩ := he
    rw [renV_go] at h1 ih1 h3 ih2
    simp only [refsV, Bool.and_eq_true] at hh
    have g : ∀ (cs : List V) (i : Nat) (x : V), cs[i]? = some x → (cs.map (renV ρ))[i]? = some (renV ρ x) := fun cs i x hx => by rw [List.getElem?_map, hx]; rfl
    exact .cl (by simpa using h1) (fun i x hx => ih1 i _ (g _ i x hx) rfl (refsV_go hh.1 i x hx)) (by simpa using h3) (fun i x hx => ih2 i _ (g _ i x hx) rfl (refsV_go hh.2 i x hx))
  | so o ho hg hu hk =>
    intro x he hh
    cases x <;> simp only [renV, reduceCtorEq, V.so.injEq] at he
    rename_i id g lo n
    obtain ⟨rfl, rfl, rfl, rfl⟩ := he
    simp only [refsV, decide_eq_true_eq] at hh
    have hx := hs id exts[id] (by simp [hh])
    rw [ho] at hx
    simp only [Option.some.injEq] at hx
    subst hx
    refine .so exts[id] (by simp [hh]) hg hu fun hgg => ?_
    have := hk hgg
    unfold SoOK at this ⊢
    rw [hσ id hh]
    exact this
  | rf o ho hg hu hk =>
    intro x he hh
    cases x <;> simp only [renV, reduceCtorEq, V.rf.injEq] at he
    rename_i id g lo n
    obtain ⟨rfl, rfl, rfl, rfl⟩ := he
    simp only [refsV, decide_eq_true_eq] at hh
    have hx := hs id exts[id] (by simp [hh])
    rw [ho] at hx
    simp only [Option.some.injEq] at hx
    subst hx
    refine .rf exts[id] (by simp [hh]) hg hu fun hgg => ?_
    rw [hσ id hh]
    exact hk hgg

theorem ren_up {σ' σn : Gh} {s' sn : List Obj} {w' : World} (hown : ∀ b, Own σn sn b → Own σ' s' b) (hs : ∀ (k : Nat) (o : Obj), s'[k]? = some o → sn[ρ.getD k 0]? = some (renO ρ o)) (hσ : ∀ k, k < s'.length → σn (ρ.getD k 0) = σ' k)
    {x : V} {u : Value} (hr : RepV σ' s' w' x u) : RepV σn sn w' (renV ρ x) u := by
  have g : ∀ (cs : List V) (i : Nat) (y : V), (cs.map (renV ρ))[i]? = some y → ∃ x, cs[i]? = some x ∧ renV ρ x = y := fun cs i y hy => by
    rw [List.getElem?_map] at hy
    exact Option.map_eq_some_iff.1 hy
  induction hr with
  | d hx => exact .d (hx.own hown)
  | fu hx => exact .fu (hx.own hown)
  | un => exact .un
  | any => exact .any
  | ag h1 h2 _ ih =>
    simp only [renV, renV_go]
    refine .ag (by simpa using h1) (fun i y hy => ?_) (fun i y hy => ?_)
    · obtain ⟨x, hx, rfl⟩ := g _ i y hy; exact h2 i x hx
    · obtain ⟨x, hx, rfl⟩ := g _ i y hy; exact ih i x hx
  | tu h1 _ ih =>
    simp only [renV, renV_go]
    refine .tu (by simpa using h1) (fun i y hy => ?_)
    obtain ⟨x, hx, rfl⟩ := g _ i y hy; exact ih i x hx
  | cl h1 _ h3 _ ih1 ih2 =>
    simp only [renV, renV_go]
    refine .cl (by simpa using h1) (fun i y hy => ?_) (by simpa using h3) (fun i y hy => ?_)
    · obtain ⟨x, hx, rfl⟩ := g _ i y hy; exact ih1 i x hx
    · obtain ⟨x, hx, rfl⟩ := g _ i y hy; exact ih2 i x hx
  | so o ho hg hu hk =>
    have hlt := (List.getElem?_eq_some_iff.1 ho).1
    refine .so (renO ρ o) (hs _ o ho) hg hu fun hgg => ?_
    have := hk hgg
    unfold SoOK at this ⊢
    rw [hσ _ hlt]
    exact this
  | rf o ho hg hu hk =>
    have hlt := (List.getElem?_eq_some_iff.1 ho).1
    refine .rf (renO ρ o) (hs _ o ho) hg hu fun hgg => ?_
    rw [hσ _ hlt]
    exact hk hgg

theorem renO_get {ρ : List Nat} {o : Obj} {i j : Nat} {y : V} (h : ((renO ρ o).els[i]?.bind (·[j]?)) = some y) : ∃ x, (o.els[i]?.bind (·[j]?)) = some x ∧ renV ρ x = y := by
  simp only [renO, List.getElem?_map] at h
  cases he : o.els[i]? with
  | none => rw [he] at h; cases h
  | some e =>
    rw [he] at h
    simp only [Option.map_some, Option.bind_some, renV_go, List.getElem?_map] at h
    exact Option.map_eq_some_iff.1 h

theorem renO_get' {ρ : List Nat} {o : Obj} {i j : Nat} {x : V} (h : (o.els[i]?.bind (·[j]?)) = some x) : ((renO ρ o).els[i]?.bind (·[j]?)) = some (renV ρ x) := by
  simp only [renO, List.getElem?_map]
  cases he : o.els[i]? with
  | none => rw [he] at h; cases h
  | some e =>
    rw [he] at h
    simp only [Option.map_some, Option.bind_some, renV_go, List.getElem?_map]
    rw [show e[j]? = some x from h]
    rfl

end frame

/-- The frame rule: the callee's objects 0, 1, .. are the caller's ρ[0], ρ[1], ..; all others stay as they are. -/
theorem call_frame {P : Program} {f : FuncId} {cargs args : List V} {exts s : List Obj} {Kc K : V → List Obj → Prop} (h : callWp P f cargs exts Kc) (ρ : List Nat) (hρ : ρ.length = exts.length) (hnd : ρ.Nodup)
    (hs : ∀ (k : Nat) (o : Obj), exts[k]? = some o → s[ρ.getD k 0]? = some (renO ρ o)) (hargs : args = cargs.map (renV ρ)) (hra : refsV.go exts.length cargs = true) (hre : exts.all (objOk exts.length) = true)
    (hk : ∀ v s', Kc v s' → s'.length = exts.length ∧ K (renV ρ v) (putObjs s ρ (s'.map (renO ρ)))) : callWp P f args s K := by
  refine ⟨h.1, fun σ w vals hI hl hv => ?_⟩
  have hρk : ∀ k, k < exts.length → ρ[k]? = some (ρ.getD k 0) := fun k hk => by simp [List.getD, show k < ρ.length by omega]
  have hρi : ∀ k k', k < exts.length → k' < exts.length → ρ.getD k 0 = ρ.getD k' 0 → k = k' := by
    intro k k' h1 h2 he
    have e1 := hρk k h1
    have e2 := hρk k' h2
    rw [he] at e1
    obtain ⟨l1, g1⟩ := List.getElem?_eq_some_iff.1 e1
    obtain ⟨l2, g2⟩ := List.getElem?_eq_some_iff.1 e2
    exact (List.getElem_inj hnd).1 (g1.trans g2.symm)
  have hsk : ∀ k, (hk : k < exts.length) → s[ρ.getD k 0]? = some (renO ρ exts[k]) := fun k hk => hs k exts[k] (by simp [hk])
  let isExt : Nat → Prop := fun b => ∃ k base, k < exts.length ∧ σ (ρ.getD k 0) = some (b, base)
  let σc : Gh := ⟨fun k => if k < exts.length then σ (ρ.getD k 0) else none, fun b => Own σ s b ∧ ¬ isExt b⟩
  have hσc : ∀ k, k < exts.length → σc k = σ (ρ.getD k 0) := fun k hk => if_pos hk
  have own1 : ∀ b, Own σc exts b → Own σ s b := by
    rintro b (hb | ⟨k, o, base, h1, h2, h3⟩)
    · exact hb.1
    · have hlt := (List.getElem?_eq_some_iff.1 h1).1
      rw [hσc k hlt] at h3
      exact .inr ⟨ρ.getD k 0, renO ρ o, base, hs k o h1, h2, h3⟩
  have own2 : ∀ b, Own σ s b → Own σc exts b := by
    intro b hb
    by_cases he : isExt b
    · obtain ⟨k, base, hlt, h3⟩ := he
      refine .inr ⟨k, exts[k], base, by simp [hlt], ?_, by rw [hσc k hlt]; exact h3⟩
      rcases hb with hb | ⟨id, o, base', g1, g2, g3⟩
      · exact absurd hb (hI.apart _ _ b base (hsk k hlt) h3)
      · have := hI.inj id _ o _ b base' base g1 (hsk k hlt) g2 g3 h3
        subst this
        rw [hsk k hlt] at g1
        cases g1
        exact g2
    · exact .inl ⟨hb, he⟩
  have hIc : Inv σc exts w := by
    refine ⟨fun k o ho => ?_, fun k k' o o' b base base' h1 h2 h3 h4 h5 => ?_, fun b hb => own_lt hI hb.1, fun k o b base h1 h2 hb => ?_⟩
    · have hlt := (List.getElem?_eq_some_iff.1 ho).1
      rw [hσc k hlt]
      rcases hI.content _ _ (hs k o ho) with ⟨g1, g2⟩ | ⟨b, base, arr, E, g1, g2, g3, g4, g5⟩
      · exact .inl ⟨g1, by simpa [renO] using g2⟩
      · refine .inr ⟨b, base, arr, E, g1, g2, fun e he => ?_, by simpa [renO] using g4, fun i j x hx => ?_⟩
        · have := g3 (renV.go ρ e) (List.mem_map.2 ⟨e, he, rfl⟩)
          rw [renV_go] at this
          simpa [renO] using this
        · obtain ⟨u, k1, k2, k3⟩ := g5 i j _ (renO_get' hx)
          refine ⟨u, k1, k2, ren_down own1 hs hσc k3 rfl ?_⟩
          have hobj := List.all_eq_true.1 hre o (List.mem_of_getElem? ho)
          cases hei : o.els[i]? with
          | none => rw [hei] at hx; cases hx
          | some e =>
            rw [hei] at hx
            exact List.all_eq_true.1 (List.all_eq_true.1 hobj e (List.mem_of_getElem? hei)) x (List.mem_of_getElem? hx)
    · have l1 := (List.getElem?_eq_some_iff.1 h1).1
      have l2 := (List.getElem?_eq_some_iff.1 h2).1
      rw [hσc k l1] at h4
      rw [hσc k' l2] at h5
      exact hρi k k' l1 l2 (hI.inj _ _ _ _ b base base' (hs k o h1) (hs k' o' h2) h3 h4 h5)
    · have l1 := (List.getElem?_eq_some_iff.1 h1).1
      rw [hσc k l1] at h2
      exact hb.2 ⟨k, base, l1, h2⟩
  refine (h.2 σc w vals hIc (by rw [hl, hargs]; simp) (fun i x hx => ren_down own1 hs hσc (hv i _ (by rw [hargs, List.getElem?_map, hx]; rfl)) rfl (refsV_go hra i x hx))).mono fun e w' ⟨u, v, σ', s', he, hE, hI', hR, hK⟩ => ?_
  obtain ⟨hlen, hK⟩ := hk v s' hK
  -- back
  let σn : Gh := ⟨fun id => match ρ.idxOf? id with | some k => σ' k | none => σ id, σ.base⟩
  have hidx : ∀ k, k < exts.length → ρ.idxOf? (ρ.getD k 0) = some k := by
    intro k hk
    have e1 := hρk k hk
    obtain ⟨l1, g1⟩ := List.getElem?_eq_some_iff.1 e1
    rw [List.idxOf?_eq_some_iff]
    refine ⟨l1, by simp [g1], fun j hj => ?_⟩
    have hj' : j < ρ.length := by omega
    intro hb
    have hb' : ρ[j] = ρ.getD k 0 := by simpa using hb
    have := (List.getElem_inj hnd).1 (hb'.trans g1.symm)
    omega
  have hσn : ∀ k, k < exts.length → σn (ρ.getD k 0) = σ' k := fun k hk => by
    show (match ρ.idxOf? (ρ.getD k 0) with | some k => σ' k | none => σ (ρ.getD k 0)) = σ' k
    rw [hidx k hk]
  have hσo : ∀ id, id ∉ ρ → σn id = σ id := fun id hid => by
    show (match ρ.idxOf? id with | some k => σ' k | none => σ id) = σ id
    rw [List.idxOf?_eq_none_iff.2 hid]
  have hmem : ∀ id, id ∈ ρ → ∃ k, k < exts.length ∧ id = ρ.getD k 0 := by
    intro id hid
    obtain ⟨k, hk⟩ := List.mem_iff_getElem?.1 hid
    have hlt := (List.getElem?_eq_some_iff.1 hk).1
    exact ⟨k, by omega, by simp [List.getD, hk]⟩
  have hsn1 : ∀ (k : Nat) (o : Obj), s'[k]? = some o → (putObjs s ρ (s'.map (renO ρ)))[ρ.getD k 0]? = some (renO ρ o) := by
    intro k o ho
    have hlt : k < exts.length := by rw [← hlen]; exact (List.getElem?_eq_some_iff.1 ho).1
    exact putObjs_at ρ _ s k _ _ hnd (hρk k hlt) (by rw [List.getElem?_map, ho]; rfl) (List.getElem?_eq_some_iff.1 (hsk k hlt)).1
  have hsn2 : ∀ id, id ∉ ρ → (putObjs s ρ (s'.map (renO ρ)))[id]? = s[id]? := fun id hid => putObjs_other ρ _ s id hid
  have hsn3 : ∀ (k : Nat) (o : Obj), k < exts.length → (putObjs s ρ (s'.map (renO ρ)))[ρ.getD k 0]? = some o → ∃ o', s'[k]? = some o' ∧ o = renO ρ o' := by
    intro k o hlt ho
    have hlt' : k < s'.length := by omega
    have := hsn1 k s'[k] (by simp [hlt'])
    rw [ho] at this
    exact ⟨s'[k], by simp [hlt'], by simpa using this⟩
  have foreign : ∀ b, b < w.heap.size → Own σ s b → ¬ isExt b → w'.heap[b]? = w.heap[b]? := fun b hb h1 h2 => hE.foreign b hb ⟨h1, h2⟩
  have baseE : ∀ b, σ.base b → ¬ isExt b := by
    rintro b hb ⟨k, base, hlt, h3⟩
    exact hI.apart _ _ b base (hsk k hlt) h3 hb
  have otherB : ∀ id o b base, id ∉ ρ → s[id]? = some o → σ id = some (b, base) → o.live = true → ¬ isExt b := by
    rintro id o b base hid ho h1 hl' ⟨k, base', hlt, h3⟩
    have := hI.inj id _ o _ b base base' ho (hsk k hlt) hl' h1 h3
    exact hid (by rw [this]; exact List.mem_of_getElem? (hρk k hlt))
  have own3 : ∀ b, Own σn (putObjs s ρ (s'.map (renO ρ))) b → Own σ' s' b := by
    rintro b (hb | ⟨id, o, base, h1, h2, h3⟩)
    · left; rw [hE.base]; exact ⟨.inl hb, baseE b hb⟩
    · by_cases hid : id ∈ ρ
      · obtain ⟨k, hlt, rfl⟩ := hmem id hid
        obtain ⟨o', g1, rfl⟩ := hsn3 k o hlt h1
        rw [hσn k hlt] at h3
        exact .inr ⟨k, o', base, g1, h2, h3⟩
      · rw [hsn2 id hid] at h1
        rw [hσo id hid] at h3
        left; rw [hE.base]
        exact ⟨.inr ⟨id, o, base, h1, h2, h3⟩, otherB id o b base hid h1 h3 h2⟩
  have hEn : Evolve σ s w σn (putObjs s ρ (s'.map (renO ρ))) w' := by
    refine ⟨hE.os, hE.tape, hE.output, hE.size, fun b hb ho => hE.keep b hb fun h' => ho (own1 b h'), fun b arr E ho hh => hE.shape b arr E (own2 b ho) hh, fun b hb => ?_, fun id o ho => ?_, rfl,
      fun b hb hf => foreign b hb (.inl hf) (baseE b hf)⟩
    · rcases hE.own b (own3 b hb) with h' | h'
      · exact .inl (own1 b h')
      · exact .inr h'
    · by_cases hid : id ∈ ρ
      · obtain ⟨k, hlt, rfl⟩ := hmem id hid
        rw [hsk k hlt] at ho
        simp only [Option.some.injEq] at ho
        subst ho
        obtain ⟨o', g1, g2, g3⟩ := hE.objs k exts[k] (by simp [hlt])
        refine ⟨renO ρ o', hsn1 k o' g1, g2, fun he => ?_⟩
        obtain ⟨e1, e2⟩ := g3 he
        exact ⟨e1, by rw [hσn k hlt, e2, hσc k hlt]⟩
      · exact ⟨o, by rw [hsn2 id hid]; exact ho, Nat.le_refl _, fun _ => ⟨rfl, hσo id hid⟩⟩
  have up : ∀ {x : V} {u : Value}, RepV σ' s' w' x u → RepV σn (putObjs s ρ (s'.map (renO ρ))) w' (renV ρ x) u := fun hr =>
    ren_up own3 hsn1 (fun k hk => hσn k (by omega)) hr
  have hIn : Inv σn (putObjs s ρ (s'.map (renO ρ))) w' := by
    refine ⟨fun id o ho => ?_, fun id id' o o' b base base' h1 h2 h3 h4 h5 => ?_, fun b hb => Nat.lt_of_lt_of_le (hI.low b hb) hE.size, fun id o b base h1 h2 hb => ?_⟩
    · by_cases hid : id ∈ ρ
      · obtain ⟨k, hlt, rfl⟩ := hmem id hid
        obtain ⟨o', g1, rfl⟩ := hsn3 k o hlt ho
        rw [hσn k hlt]
        rcases hI'.content k o' g1 with ⟨c1, c2⟩ | ⟨b, base, arr, E, c1, c2, c3, c4, c5⟩
        · exact .inl ⟨c1, by simp [renO, c2]⟩
        · refine .inr ⟨b, base, arr, E, c1, c2, fun e he => ?_, by simpa [renO] using c4, fun i j y hy => ?_⟩
          · obtain ⟨e', he', rfl⟩ := List.mem_map.1 he
            rw [renV_go]
            simpa [renO] using c3 e' he'
          · obtain ⟨x, hx, rfl⟩ := renO_get hy
            obtain ⟨u, k1, k2, k3⟩ := c5 i j x hx
            exact ⟨u, k1, k2, up k3⟩
      · rw [hsn2 id hid] at ho
        rw [hσo id hid]
        refine Holds.evolve (p := σ id) hEn (fun b base hb => ?_) (hI.content id o ho)
        have hlt := hI.lt ho hb
        by_cases hO : Own σ s b
        · by_cases hl' : o.live = true
          · exact foreign b hlt hO (otherB id o b base hid ho hb hl')
          · exfalso
            rcases hO with hO | ⟨id', o', base', g1, g2, g3⟩
            · exact hI.apart id o b base ho hb hO
            · have := hI.inj id' id o' o b base' base g1 ho g2 g3 hb
              subst this
              rw [ho] at g1; cases g1
              exact hl' g2
        · exact hE.keep b hlt fun h' => hO (own1 b h')
    · by_cases hid : id ∈ ρ <;> by_cases hid' : id' ∈ ρ
      · obtain ⟨k, hlt, rfl⟩ := hmem id hid
        obtain ⟨k', hlt', rfl⟩ := hmem id' hid'
        obtain ⟨p, g1, rfl⟩ := hsn3 k o hlt h1
        obtain ⟨p', g1', rfl⟩ := hsn3 k' o' hlt' h2
        rw [hσn k hlt] at h4
        rw [hσn k' hlt'] at h5
        rw [hI'.inj k k' p p' b base base' g1 g1' h3 h4 h5]
      · exfalso
        obtain ⟨k, hlt, rfl⟩ := hmem id hid
        obtain ⟨p, g1, rfl⟩ := hsn3 k o hlt h1
        rw [hσn k hlt] at h4
        rw [hsn2 id' hid'] at h2
        rw [hσo id' hid'] at h5
        have hltb := hI.lt h2 h5
        have hO : Own σ s b := by
          rcases hE.own b (.inr ⟨k, p, base, g1, h3, h4⟩) with h' | h'
          · exact own1 b h'
          · omega
        by_cases hl' : o'.live = true
        · exact hI'.apart k p b base g1 h4 (by rw [hE.base]; exact ⟨hO, otherB id' o' b base' hid' h2 h5 hl'⟩)
        · rcases hO with hO | ⟨id2, o2, base2, q1, q2, q3⟩
          · exact hI.apart id' o' b base' h2 h5 hO
          · have := hI.inj id2 id' o2 o' b base2 base' q1 h2 q2 q3 h5
            subst this
            rw [h2] at q1; cases q1
            exact hl' q2
      · exfalso
        obtain ⟨k', hlt', rfl⟩ := hmem id' hid'
        obtain ⟨p', g1', rfl⟩ := hsn3 k' o' hlt' h2
        rw [hσn k' hlt'] at h5
        rw [hsn2 id hid] at h1
        rw [hσo id hid] at h4
        exact hI'.apart k' p' b base' g1' h5 (by rw [hE.base]; exact ⟨.inr ⟨id, o, base, h1, h3, h4⟩, otherB id o b base hid h1 h4 h3⟩)
      · rw [hsn2 id hid] at h1
        rw [hsn2 id' hid'] at h2
        rw [hσo id hid] at h4
        rw [hσo id' hid'] at h5
        exact hI.inj id id' o o' b base base' h1 h2 h3 h4 h5
    · by_cases hid : id ∈ ρ
      · obtain ⟨k, hlt, rfl⟩ := hmem id hid
        obtain ⟨p, g1, rfl⟩ := hsn3 k o hlt h1
        rw [hσn k hlt] at h2
        exact hI'.apart k p b base g1 h2 (by rw [hE.base]; exact ⟨.inl hb, baseE b hb⟩)
      · rw [hsn2 id hid] at h1
        rw [hσo id hid] at h2
        exact hI.apart id o b base h1 h2 hb
  exact ⟨u, renV ρ v, σn, _, he, hEn, hIn, up hR, hK⟩

end Go.VL
