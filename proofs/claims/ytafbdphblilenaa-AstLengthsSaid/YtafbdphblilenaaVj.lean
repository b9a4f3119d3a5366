/- The V-logic, part 10: operations, code, functions. -/
import Derived.Test.YtafbdphblilenaaVi
namespace Go.VL

theorem toList_map_toArray {α : Type} (l : List α) : l.toArray.toList = l := rfl

theorem opWp_sound {P : Program} {N : Nat} {o : Oper} {σ : Gh} {s : List Obj} {w : World} {e : Nat → V} {a : Act} {K : V → List Obj → Prop} (hI : Inv σ s w) (hR : RepE σ s w N e a) (h : opWp P o e s K) : TriOp P o σ s w a K := by
  obtain ⟨dst, op, ty, pos, after, guard⟩ := o
  have ro : ∀ {v : V} {c : Value} {s1 : Sem Value}, s1.run P w = .ok c w → (do pure (Next.value (← s1)) : Sem Next).run P w = .ok (.value c) w := fun h => by simp [h]
  have r1 : ∀ {c : Value} {w' : World} {s1 : Sem Value}, s1.run P w = .ok c w' → (do pure (Next.value (← s1)) : Sem Next).run P w = .ok (.value c) w' := fun h => by simp [h]
  have same : ∀ {v : V} {c : Value}, (execOp a.eval ⟨dst, op, ty, pos, after, guard⟩).run P w = .ok (.value c) w → RepV σ s w v c → K v s → TriOp P ⟨dst, op, ty, pos, after, guard⟩ σ s w a K :=
    fun hr hv hk => tri_value hr (Evolve.refl _ _ _) hI hv hk
  cases op <;> simp only [opWp] at h
  case move x => exact same (by simp [execOp]) (hR.ev x) h
  case assign x => exact same (by simp [execOp]) (hR.ev x) h
  case pick c x y =>
    unfold boolWp at h
    split at h
    · rename_i b hb
      have hc := hR.ev c
      rw [hb] at hc
      generalize hcv : a.eval c = cv' at hc
      cases hc with | d hc => ?_
      cases hc with | sc _ _ => ?_
      cases b
      · exact same (c := a.eval y) (by simp [execOp, hcv, asBool]) (hR.ev y) (h.2 rfl)
      · exact same (c := a.eval x) (by simp [execOp, hcv, asBool]) (hR.ev x) (h.1 rfl)
    · exact h.elim
  case alloc t =>
    obtain ⟨v, c, σ', s', w', k1, k2, k3, k4, k5⟩ := alloc_sound hI h
    exact tri_value (by simp only [execOp]; exact r1 k1) k2 k3 k4 k5
  case box t x =>
    obtain ⟨v, c, σ', s', w', k1, k2, k3, k4, k5⟩ := box_sound (P := P) (t := t) hI (hR.ev x) h
    exact tri_value (by simp only [execOp]; exact r1 k1) k2 k3 k4 k5
  case build t parts =>
    obtain ⟨v, c, k1, k2, k3⟩ := build_sound (by simp) (parts_rep hR parts.toList) h
    refine same (c := c) ?_ k2 k3
    simp only [execOp]
    refine r1 ?_
    rw [← List.map_toArray] at k1
    simpa using k1
  case buildSlice t n parts =>
    obtain ⟨v, c, σ', s', w', k1, k2, k3, k4, k5⟩ := buildSlice_sound hI (by simp) (parts_rep hR parts.toList) h
    refine tri_value ?_ k2 k3 k4 k5
    simp only [execOp]
    refine r1 ?_
    rw [← List.map_toArray] at k1
    simpa using k1
  case load t x =>
    obtain ⟨v, c, k1, k2, k3⟩ := load_sound hI (hR.ev x) h
    exact same (by simp only [execOp]; exact r1 k1) k2 k3
  case store t x y =>
    obtain ⟨s', w', k1, k2, k3, k4⟩ := store_sound hI (hR.ev x) (hR.ev y) h
    unfold TriOp Oper.wp
    simp only [execOp, Sem.run_bind, k1, Result.andThen_ok, Sem.run_pure, Oper.upon_skip]
    exact ⟨undef, .un, σ, s', rfl, k2, k3, .un, k4⟩
  case nilCheck x =>
    unfold nilWp at h
    have hx := hR.ev x
    split at h
    · rename_i hx'
      rw [hx'] at hx
      generalize hcv : a.eval x = cv' at hx
      cases hx with | d hx => ?_
      cases hx with | el _ ad f h1 h2 h3 => ?_
      exact same (c := .pointer (some ad)) (by simp [execOp, hcv]) (.d (.el _ ad f h1 h2 h3)) h
    · rename_i hx'
      obtain ⟨o, ho, hg, h⟩ := atG_spec h
      rw [hx'] at hx
      obtain ⟨b, base, _, hp⟩ := rf_ptr hx ho hg
      exact same (c := a.eval x) (by simp [execOp, hp]) hx h
    · rename_i hx'
      rw [hx'] at hx
      generalize hcv : a.eval x = cv' at hx
      cases hx with | cl h1 h2 h3 h4 => ?_
      exact same (c := .func _ _ _) (by simp [execOp, hcv]) (.cl h1 h2 h3 h4) h
    · exact h.elim
  case binOp op t x y yt =>
    cases hn : nilC y with
    | true =>
      simp only [hn, cond_true] at h
      have hy : y = .const (.slice none 0 0) := by
        unfold nilC at hn
        split at hn
        · rfl
        · cases hn
      subst hy
      obtain ⟨v, c, k1, k2, k3⟩ := nilSl_sound (xo := x) (yo := .const (.slice none 0 0)) (hR.ev x) h
      exact same (by simp only [execOp]; exact r1 k1) k2 k3
    | false =>
      simp only [hn, cond_false] at h
      obtain ⟨v, c, k1, k2, k3⟩ := bin_sound (xo := x) (yo := y) (hR.ev x) (hR.ev y) h
      exact same (by simp only [execOp]; exact r1 k1) k2 k3
  case unOp op t x =>
    obtain ⟨v, c, k1, k2, k3⟩ := un_sound (P := P) (hR.ev x) h
    exact same (by simp only [execOp]; exact r1 k1) k2 k3
  case convert src d x =>
    obtain ⟨v, c, k1, k2, k3⟩ := conv_sound (hR.ev x) h
    exact same (by simp only [execOp]; exact r1 k1) k2 k3
  case makeFunc fn first caps =>
    have key : ∀ (l : Array Operand) (i : Nat) (x : V), (l.toList.map (ev e))[i]? = some x → RepV σ s w x ((l.map a.eval).getD i undef) := by
      intro l i x hx
      obtain ⟨u, h1, h2⟩ := map_rep hR l.toList i x hx
      have := getD_of_list h1 undef
      rw [← List.map_toArray] at this
      simp only [Array.toArray_toList] at this
      rw [this]; exact h2
    refine same (c := .func fn (first.map a.eval) (caps.map a.eval)) (by simp [execOp, Instr.makeFunc]) (.cl (by simp) (key first) (by simp) (key caps)) h
  case makeSlice t l c =>
    obtain ⟨v, r, σ', s', w', k1, k2, k3, k4, k5⟩ := makeSlice_sound hI (hR.ev l) (hR.ev c) h
    exact tri_value (by simp only [execOp]; exact r1 k1) k2 k3 k4 k5
  case slice t x lo hi mx =>
    have opt : ∀ (y : Option Operand) (v : V), y.map (ev e) = some v → ∃ c, y.map a.eval = some c ∧ RepV σ s w v c := by
      intro y v hv
      cases y with
      | none => cases hv
      | some y => simp only [Option.map_some, Option.some.injEq] at hv; subst hv; exact ⟨_, rfl, hR.ev y⟩
    have optn : ∀ (y : Option Operand), y.map (ev e) = none → y.map a.eval = none := by
      intro y hv
      cases y with
      | none => rfl
      | some y => cases hv
    obtain ⟨v, c, k1, k2, k3⟩ := slice_sound (hR.ev x) (opt lo) (optn lo) (opt hi) (optn hi) (opt mx) (optn mx) h
    exact same (by simp only [execOp]; exact r1 k1) k2 k3
  case fieldAddr t x f =>
    obtain ⟨v, c, k1, k2, k3⟩ := fieldAddr_sound (hR.ev x) h
    exact same (by simp only [execOp]; exact r1 k1) k2 k3
  case field t x f =>
    obtain ⟨v, c, k1, k2, k3⟩ := field_sound (hR.ev x) h
    exact same (by simp only [execOp]; exact r1 k1) k2 k3
  case indexAddr t x i =>
    obtain ⟨v, c, k1, k2, k3⟩ := indexAddr_sound (hR.ev x) (hR.ev i) h
    exact same (by simp only [execOp]; exact r1 k1) k2 k3
  case index t x i =>
    obtain ⟨v, c, k1, k2, k3⟩ := index_sound (hR.ev x) (hR.ev i) h
    exact same (by simp only [execOp]; exact r1 k1) k2 k3
  case extract x i =>
    unfold tupWp at h
    have hx := hR.ev x
    split at h
    case h_2 => exact h.elim
    rename_i vs hx'
    rw [hx'] at hx
    split at h
    case h_2 => exact h.elim
    rename_i v hv
    generalize hcv : a.eval x = cv' at hx
    cases hx with | tu h1 h2 => ?_
    rename_i arr
    have hlt := (List.getElem?_eq_some_iff.1 hv).1
    obtain ⟨c, hc⟩ : ∃ c, arr[i]? = some c := ⟨arr[i]'(by omega), by rw [Array.getElem?_eq_getElem]⟩
    have hd : arr.getD i undef = c := by rw [Array.getD_eq_getD_getElem?, hc]; rfl
    exact same (c := c) (by simp [execOp, hcv, Instr.extract, hc]) (by rw [← hd]; exact h2 i v hv) h
  case call c =>
    obtain ⟨callee, args, argTypes⟩ := c
    unfold callOpWp at h
    have argsRep : ∀ (l : List Operand), l = args.toList → ∀ (i : Nat) (x : V), (l.map (ev e))[i]? = some x → ∃ u, (args.map a.eval).toList[i]? = some u ∧ RepV σ s w x u := by
      rintro l rfl i x hx
      obtain ⟨u, h1, h2⟩ := map_rep hR args.toList i x hx
      exact ⟨u, by simpa using h1, h2⟩
    split at h
    · rename_i f hf
      simp only at hf
      subst hf
      refine tri_call (f := f) (vals := args.map a.eval) (by
        rw [execOp_call_go, Array.empty_append, Array.append_empty]) hI (by simp) (fun i x hx => ?_) h
      obtain ⟨u, h1, h2⟩ := argsRep _ rfl i x hx
      have := getD_of_list h1 undef
      simp only [Array.toArray_toList] at this
      rw [this]; exact h2
    · rename_i f _ hf
      simp only at hf
      subst hf
      split at h
      · rename_i g first caps hcl
        have hx := hR.ev f
        rw [hcl] at hx
        generalize hcv : a.eval f = cv' at hx
        cases hx with | cl h1 h2 h3 h4 => ?_
        rename_i f' c'
        refine tri_call (f := g) (vals := f' ++ args.map a.eval ++ c') (by
          simp [execOp, resolve, hcv, Deferred.ofValue, invoke]) hI (by simp [h1, h3]) (fun i x hx => ?_) h
        have gd : ∀ (arr : Array Value) (j : Nat), j < arr.size → arr[j]? = some (arr.getD j undef) := fun arr j hj => by simp [Array.getD, hj]
        by_cases hi1 : i < first.length
        · rw [List.append_assoc, List.getElem?_append_left hi1] at hx
          have : (f' ++ args.map a.eval ++ c').getD i undef = f'.getD i undef := by
            rw [Array.getD_eq_getD_getElem?, Array.append_assoc, Array.getElem?_append_left (by omega), Array.getD_eq_getD_getElem?]
          rw [this]; exact h2 i x hx
        · rw [List.append_assoc, List.getElem?_append_right (by omega)] at hx
          simp only at hx
          by_cases hi2 : i - first.length < (args.toList.map (ev e)).length
          · rw [List.getElem?_append_left hi2] at hx
            obtain ⟨u, k1, k2⟩ := argsRep _ rfl _ x hx
            have : (f' ++ args.map a.eval ++ c').getD i undef = u := by
              rw [Array.getD_eq_getD_getElem?, Array.append_assoc, Array.getElem?_append_right (by omega), Array.getElem?_append_left (by simp at hi2 ⊢; omega), h1]
              rw [Array.getElem?_toList] at k1
              rw [k1]; rfl
            rw [this]; exact k2
          · rw [List.getElem?_append_right (by omega)] at hx
            have : (f' ++ args.map a.eval ++ c').getD i undef = c'.getD (i - first.length - (args.toList.map (ev e)).length) undef := by
              rw [Array.getD_eq_getD_getElem?, Array.append_assoc, Array.getElem?_append_right (by omega), Array.getElem?_append_right (by simp at hi2 ⊢; omega), Array.getD_eq_getD_getElem?]
              congr 2
              simp [h1]
            rw [this]; exact h4 _ x hx
      · exact h.elim
    · rename_i b hb
      simp only at hb
      subst hb
      have hargs : ∀ (l : List Operand), args.toList = l → args = l.toArray := fun l hl => by rw [← hl]
      have hats : ∀ (l : List TypeId), argTypes.toList = l → argTypes = l.toArray := fun l hl => by rw [← hl]
      split at h
      · rename_i x t h1 h2
        have e1 := hargs _ h1
        have e2 := hats _ h2
        subst e1; subst e2
        obtain ⟨v, c, k1, k2, k3⟩ := len_sound (ty := ty) (hR.ev x) h
        exact same (by simp [execOp, resolve, invoke, builtin, k1]) k2 k3
      · rename_i x y t t' h1 h2
        have e1 := hargs _ h1
        have e2 := hats _ h2
        subst e1; subst e2
        obtain ⟨rfl, h⟩ := h
        obtain ⟨v, r, σ', s', w', k1, k2, k3, k4, k5⟩ := append_sound (ty := ty) hI (hR.ev x) (hR.ev y) h
        exact tri_value (by simp [execOp, resolve, invoke, builtin, k1]) k2 k3 k4 k5
      · rename_i x rest h1
        have e1 := hargs _ h1
        subst e1
        obtain ⟨v, r, k1, k2, k3⟩ := minmax_sound (P := P) (mn := true) (rest.map (ev e)) (rest.map a.eval) (ev e x) (a.eval x) _ (hR.ev x) (by simp) (map_rep hR rest) h
        simp only [if_true] at k1
        exact same (by simp [execOp, resolve, invoke, builtin, Builtin.min_, k1]) k2 k3
      · rename_i x rest h1
        have e1 := hargs _ h1
        subst e1
        obtain ⟨v, r, k1, k2, k3⟩ := minmax_sound (P := P) (mn := false) (rest.map (ev e)) (rest.map a.eval) (ev e x) (a.eval x) _ (hR.ev x) (by simp) (map_rep hR rest) h
        simp only [Bool.false_eq_true, if_false] at k1
        exact same (by simp [execOp, resolve, invoke, builtin, Builtin.max_, k1]) k2 k3
      · exact h.elim
    · exact h.elim

end Go.VL
