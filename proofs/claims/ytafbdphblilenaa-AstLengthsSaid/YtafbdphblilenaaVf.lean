/- The V-logic, part 6: slices: literals, make, reslicing, len, append. -/
import Derived.Test.YtafbdphblilenaaVe
namespace Go.VL

def toD : V → Option D
  | .d x => some x
  | .fu els => some (.sl els)
  | _ => none

theorem toD_spec {σ : Gh} {s : List Obj} {w : World} {x : V} {u : Value} {y : D} (hr : RepV σ s w x u) (h : toD x = some y) : RepD (Own σ s) w y u := by
  cases hr <;> simp only [toD, Option.some.injEq] at h <;> first | (cases h; done) | (subst h; assumption)

def allD (els : List (List V)) : Option (List (List D)) := els.mapM fun e => e.mapM toD

theorem mapM_get {α β : Type} {f : α → Option β} : ∀ {l : List α} {r : List β}, l.mapM f = some r → r.length = l.length ∧ ∀ (i : Nat) (y : β), r[i]? = some y → ∃ x, l[i]? = some x ∧ f x = some y
  | [], r, h => by simp at h; subst h; simp
  | a :: l, r, h => by
    rw [List.mapM_cons] at h
    cases ha : f a with
    | none => simp [ha] at h
    | some b =>
      cases hl : l.mapM f with
      | none => simp [ha, hl] at h
      | some r' =>
        simp [ha, hl] at h
        subst h
        obtain ⟨h1, h2⟩ := mapM_get hl
        refine ⟨by simp [h1], fun i y hy => ?_⟩
        cases i with
        | zero => simp at hy; subst hy; exact ⟨a, rfl, ha⟩
        | succ i => simpa using h2 i y (by simpa using hy)

theorem allD_spec {els : List (List V)} {ds : List (List D)} (h : allD els = some ds) : ds.length = els.length ∧
    (∀ (i : Nat) (e : List D), ds[i]? = some e → ∃ e', els[i]? = some e' ∧ e.length = e'.length) ∧
    ∀ (i j : Nat) (y : D), (ds[i]?.bind (·[j]?)) = some y → ∃ x, (els[i]?.bind (·[j]?)) = some x ∧ toD x = some y := by
  obtain ⟨h1, h2⟩ := mapM_get h
  refine ⟨h1, fun i e he => ?_, fun i j y hy => ?_⟩
  · obtain ⟨e', k1, k2⟩ := h2 i e he
    exact ⟨e', k1, (mapM_get k2).1⟩
  · cases he : ds[i]? with
    | none => rw [he] at hy; cases hy
    | some e =>
      rw [he] at hy
      obtain ⟨e', k1, k2⟩ := h2 i e he
      obtain ⟨x, k3, k4⟩ := (mapM_get k2).2 j y hy
      exact ⟨x, by rw [k1]; exact k3, k4⟩

/-- A row of a block that nobody owns, as data. -/
theorem RepD.of_row {O : Nat → Prop} {w : World} {els : List (List D)} {b base cap sz : Nat} (hcap : els.length ≤ cap) (hsz : ∀ e ∈ els, e.length = sz) (hO : ¬ O b)
    (h : ∀ (i j : Nat) (x : D), (els[i]?.bind (·[j]?)) = some x → ∃ u, w.cell? ⟨b, base + i * sz + j, none⟩ = some u ∧ RepD O w x u) : RepD O w (.sl els) (.slice (some ⟨b, base, none⟩) els.length cap) := by
  refine .sl els ⟨b, base, none⟩ cap sz (fun i j => (w.cell? ⟨b, base + i * sz + j, none⟩).getD undef) hcap (fun _ => rfl) hsz (fun i j x hx => ?_) (fun i j x hx => ?_)
  · obtain ⟨u, h1, h2⟩ := h i j x hx
    simp only [h1, Option.getD_some]
    exact ⟨trivial, hO⟩
  · obtain ⟨u, h1, h2⟩ := h i j x hx
    simpa only [h1, Option.getD_some] using h2

theorem own_lt {σ : Gh} {s : List Obj} {w : World} (hI : Inv σ s w) {b : Nat} (h : Own σ s b) : b < w.heap.size := by
  rcases h with h | ⟨id, o, base, h1, _, h3⟩
  · exact hI.low b h
  · exact hI.lt h1 h3

def slTy (P : Program) (t : TypeId) : Option (TypeId × TyI) :=
  match P.underlying t with
  | some (.slice e) => (tyI P e).map fun i => (e, i)
  | _ => none

theorem slTy_spec {P : Program} {t e : TypeId} {i : TyI} (h : slTy P t = some (e, i)) : P.underlying t = some (.slice e) ∧ tyI P e = some i := by
  unfold slTy at h
  split at h
  · rename_i e' hu
    obtain ⟨i', h1, h2⟩ := Option.map_eq_some_iff.1 h
    simp only [Prod.mk.injEq] at h2
    obtain ⟨rfl, rfl⟩ := h2
    exact ⟨hu, h1⟩
  · cases h

def buildSliceWp (P : Program) (t : TypeId) (len : Nat) (parts : List (Nat × V)) (s : List Obj) (K : V → List Obj → Prop) : Prop :=
  match slTy P t with
  | none => False
  | some (_, i) => (len * i.sz ≤ 16777216 ∧ 0 < i.sz) ∧ match fillE i.sz (List.replicate len (i.zero.map cv)) parts with
    | none => False
    | some els => match allD els with
      | some ds => K (.fu ds) s
      | none => K (.so s.length 0 0 len) (s ++ [⟨0, true, i.sz, els⟩])

theorem zeroRow {P : Program} {t : TypeId} {i : TyI} (ht : tyI P t = some i) (σ : Gh) (s : List Obj) (w : World) (n : Nat) (z : Value) (hz : z.cells.toList = i.zero) :
    RepsE σ s w i.sz (List.replicate n (i.zero.map cv)) ((Array.range (n * i.sz)).map (z.cells[· % z.cells.size]!)) := by
  obtain ⟨ti, d, z', k1, k2, k3, k4, k5, k6, k7, k8, k9⟩ := tyI_spec ht
  have hzs : z.cells.size = i.sz := by rw [← Array.length_toList, hz, k7]
  refine ⟨fun e he => by rw [List.eq_of_mem_replicate he]; simp [k7], by simp, fun a j x hx => ?_⟩
  have ha : a < n := by
    cases he : (List.replicate n (i.zero.map cv))[a]? with
    | none => rw [he] at hx; cases hx
    | some e => simpa using (List.getElem?_eq_some_iff.1 he).1
  simp only [List.getElem?_replicate, ha, if_true, Option.bind_some, List.getElem?_map] at hx
  obtain ⟨v, hv, rfl⟩ := Option.map_eq_some_iff.1 hx
  have hj : j < i.sz := by rw [← k7]; exact (List.getElem?_eq_some_iff.1 hv).1
  have hb := Nat.mul_le_mul_right i.sz (show a + 1 ≤ n from ha)
  rw [Nat.add_mul, Nat.one_mul] at hb
  refine ⟨v, ?_, k8 v (List.mem_of_getElem? hv), cv_rep v⟩
  have hmod : (a * i.sz + j) % z.cells.size = j := by rw [hzs, Nat.mul_add_mod_self_right, Nat.mod_eq_of_lt hj]
  have hget : z.cells[j]! = v := by
    rw [getElem!_def, ← Array.getElem?_toList, hz, hv]
  simp [show a * i.sz + j < n * i.sz by omega, hmod, hget]

theorem buildSlice_sound {P : Program} {t : TypeId} {len : Nat} {σ : Gh} {s : List Obj} {w : World} {parts : List (Nat × V)} {ps : List (Nat × Value)} {K : V → List Obj → Prop} (hI : Inv σ s w)
    (hl : ps.length = parts.length) (hp : ∀ (j : Nat) i x, parts[j]? = some (i, x) → ∃ u, ps[j]? = some (i, u) ∧ RepV σ s w x u) (h : buildSliceWp P t len parts s K) :
    ∃ v c σ' s' w', (Instr.buildSlice t len ps.toArray).run P w = .ok c w' ∧ Evolve σ s w σ' s' w' ∧ Inv σ' s' w' ∧ RepV σ' s' w' v c ∧ K v s' := by
  unfold buildSliceWp at h
  split at h
  · exact h.elim
  rename_i e i hti
  obtain ⟨hu, hi⟩ := slTy_spec hti
  obtain ⟨⟨hb, hpos⟩, h⟩ := h
  split at h
  · exact h.elim
  rename_i els hels
  obtain ⟨ti, d, z, k1, k2, k3, k4, k5, k6, k7, k8, k9⟩ := tyI_spec hi
  have hz : ∀ w, (zeroValue e).run P w = .ok z w := fun w => by simp [zeroValue, typeInfo, k1, k3]
  have hsz : ∀ w, (sizeOf e).run P w = .ok i.sz w := fun w => by simp [sizeOf, typeInfo, k1, k4]
  obtain ⟨arr', f1, f2, f3⟩ := fillE_sound parts ps _ _ els (zeroRow hi σ s w len z k6) hl hp hels
  have hlen : els.length = len := by simpa using f3
  have hrun : (Instr.buildSlice t len ps.toArray).run P w = .ok (.slice (some ⟨w.heap.size, 0, none⟩) len len) (w.alloc (.cells arr' e)) := by
    have hb' : ¬ (len * i.sz > 2 ^ 24) := by omega
    by_cases h0 : len = 0
    · subst h0
      have hr0 : ∀ g : Nat → Value, (Array.range 0).map g = #[] := fun g => by apply Array.ext' ; simp
      rw [Nat.zero_mul, hr0] at f1
      simp only [Instr.buildSlice, Sem.run_bind, run_underlying hu, hsz, Result.andThen_ok, Nat.zero_mul, hr0, f1]
      simp [newRow]
    · have h0' : ¬ (len * i.sz = 0) := by
        have := Nat.mul_pos (Nat.pos_of_ne_zero h0) hpos; omega
      simp only [Instr.buildSlice, Sem.run_bind, run_underlying hu, hsz, Result.andThen_ok, if_neg hb', if_neg h0', hz, f1, Sem.run_pure]
      simp [newRow]
  obtain ⟨r1, r2, r3⟩ := f2
  split at h
  · rename_i ds hds
    obtain ⟨d1, d2, d3⟩ := allD_spec hds
    obtain ⟨hE, hI'⟩ := alloc_obj hI (.cells arr' e)
    refine ⟨_, _, σ, s, _, hrun, hE, hI', ?_, h⟩
    have hd : RepD (Own σ s) (w.alloc (.cells arr' e)) (.sl ds) (.slice (some ⟨w.heap.size, 0, none⟩) ds.length ds.length) := by
      refine RepD.of_row (sz := i.sz) (Nat.le_refl _) (fun x hx => ?_) (fun ho => by have := own_lt hI ho; omega) (fun a j y hy => ?_)
      · obtain ⟨a, ha⟩ := List.mem_iff_getElem?.1 hx
        obtain ⟨e', g1, g2⟩ := d2 a x ha
        rw [g2]; exact r1 e' (List.mem_of_getElem? g1)
      · obtain ⟨x, g1, g2⟩ := d3 a j y hy
        obtain ⟨c, c1, c2, c3⟩ := r3 a j x g1
        exact ⟨c, by simpa using c1, (toD_spec c3 g2).evolve hE⟩
    rw [show len = ds.length by omega]
    exact .fu hd
  · have := new_obj (els := els) (sz := i.sz) (arr := arr') hI e r1 (by omega) r3
    refine ⟨_, _, _, _, _, hrun, this.1, this.2, ?_, h⟩
    refine .so ⟨0, true, i.sz, els⟩ (by simp) (Nat.le_refl _) rfl (fun _ => .inr ⟨w.heap.size, 0, len, e, arr', updG_same _ _ _, heap_alloc_new w _, by simp, Nat.le_refl _, by simp [r2, hlen]⟩)

/-! ### make -/

def makeSliceWp (P : Program) (t : TypeId) (l c : V) (s : List Obj) (K : V → List Obj → Prop) : Prop :=
  match slTy P t with
  | none => False
  | some (_, i) => match l, c with
    | .d (.sc (.int _ n)), .d (.sc (.int _ m)) => (0 ≤ n ∧ n ≤ m ∧ i.byt * m ≤ 140737488355328 ∧ m ≤ 9223372036854775807 ∧ 0 < i.sz) ∧
        K (.so s.length 0 0 n.toNat) (s ++ [⟨0, true, i.sz, List.replicate n.toNat (i.zero.map cv)⟩])
    | _, _ => False

theorem makeSlice_sound {P : Program} {t : TypeId} {l c : V} {ul uc : Value} {σ : Gh} {s : List Obj} {w : World} {K : V → List Obj → Prop} (hI : Inv σ s w) (hl : RepV σ s w l ul) (hc : RepV σ s w c uc)
    (h : makeSliceWp P t l c s K) : ∃ v r σ' s' w', (Instr.makeSlice t ul uc).run P w = .ok r w' ∧ Evolve σ s w σ' s' w' ∧ Inv σ' s' w' ∧ RepV σ' s' w' v r ∧ K v s' := by
  unfold makeSliceWp at h
  split at h
  · exact h.elim
  rename_i e i hti
  obtain ⟨hu, hi⟩ := slTy_spec hti
  split at h
  case h_2 => exact h.elim
  rename_i kl n kc m
  obtain ⟨⟨h1, h2, h3, h4, h5⟩, h⟩ := h
  cases hl with | d hl => ?_
  cases hl with | sc _ _ => ?_
  cases hc with | d hc => ?_
  cases hc with | sc _ _ => ?_
  obtain ⟨ti, d, z, k1, k2, k3, k4, k5, k6, k7, k8, k9⟩ := tyI_spec hi
  have hz : ∀ w, (zeroValue e).run P w = .ok z w := fun w => by simp [zeroValue, typeInfo, k1, k3]
  have hsz : ∀ w, (sizeOf e).run P w = .ok i.sz w := fun w => by simp [sizeOf, typeInfo, k1, k4]
  obtain ⟨N, rfl⟩ := Int.eq_ofNat_of_zero_le h1
  obtain ⟨M, rfl⟩ := Int.eq_ofNat_of_zero_le (show 0 ≤ m by omega)
  have w1 : IntKind.i64.wrap (N : Int) = N := IntWalk.i64_in _ (by omega)
  have w2 : IntKind.i64.wrap (M : Int) = M := IntWalk.i64_in _ (by omega)
  have hbig : ¬ ((i.byt : Int) * (M : Int) > 2 ^ 48) := by omega
  obtain ⟨r1, r2, r3⟩ := zeroRow hi σ s w M z k6
  have hrun : (Instr.makeSlice t (.int kl N) (.int kc M)).run P w = .ok (.slice (some ⟨w.heap.size, 0, none⟩) N M) (w.alloc (.cells ((Array.range (M * i.sz)).map (z.cells[· % z.cells.size]!)) e)) := by
    have hr0 : ∀ g : Nat → Value, (Array.range 0).map g = #[] := fun g => by apply Array.ext' ; simp
    have c1 : ¬ ((M : Int) < 0) := by omega
    have c2 : ¬ ((N : Int) < 0) := by omega
    have c3 : ¬ ((N : Int) > M) := by omega
    by_cases h0 : M * i.sz = 0
    · simp only [Instr.makeSlice, run_underlying hu, asInt, asIntOf, typeInfo, k1, k5, w1, w2, Sem.run_bind, Result.andThen_ok, run_program, Sem.run_pure, Int.toNat_natCast, h0, hr0]
      simp [c1, c2, c3, hsz, newRow, h0, hr0]
      intro hx; exfalso; omega
    · simp only [Instr.makeSlice, run_underlying hu, asInt, asIntOf, typeInfo, k1, k5, w1, w2, Sem.run_bind, Result.andThen_ok, run_program, Sem.run_pure, Int.toNat_natCast]
      simp [c1, c2, c3, hsz, newRow, h0, hz]
      intro hx; exfalso; omega
  have := new_obj (els := List.replicate N (i.zero.map cv)) (sz := i.sz) (arr := (Array.range (M * i.sz)).map (z.cells[· % z.cells.size]!)) hI e (fun x hx => by rw [List.eq_of_mem_replicate hx]; simp [k7])
    (by simp; exact Nat.mul_le_mul_right _ (by omega)) (fun a j x hx => by
      refine r3 a j x ?_
      rw [List.getElem?_replicate] at hx ⊢
      split at hx
      · rw [if_pos (by omega)]; exact hx
      · cases hx)
  refine ⟨_, _, _, _, _, hrun, this.1, this.2, ?_, h⟩
  refine .so ⟨0, true, i.sz, List.replicate N (i.zero.map cv)⟩ (by simp) (Nat.le_refl _) rfl (fun _ => .inr ⟨w.heap.size, 0, M, e, (Array.range (M * i.sz)).map (z.cells[· % z.cells.size]!), updG_same _ _ _, heap_alloc_new w _, by simp, by omega, by simp⟩)

end Go.VL
