/- The V-logic, part 5: values that are built, new objects, slices. -/
import Derived.Test.YtafbdphblilenaaVd
namespace Go.VL

def RepsL (σ : Gh) (s : List Obj) (w : World) (cs : List V) (arr : Array Value) : Prop :=
  arr.size = cs.length ∧ ∀ (i : Nat) (x : V), cs[i]? = some x → ∃ c, arr[i]? = some c ∧ c.oneCell' = true ∧ RepV σ s w x c

theorem RepsL.evolve {σ s w σ' s' w' cs arr} (h : Evolve σ s w σ' s' w') (hr : RepsL σ s w cs arr) : RepsL σ' s' w' cs arr :=
  ⟨hr.1, fun i x hx => let ⟨c, h1, h2, h3⟩ := hr.2 i x hx; ⟨c, h1, h2, h3.evolve h⟩⟩

theorem RepsL.ag {σ s w cs arr} (h : RepsL σ s w cs arr) : RepV σ s w (.ag cs) (.agg arr) := by
  have e : ∀ (i : Nat) (x : V), cs[i]? = some x → (arr.getD i undef).oneCell' = true ∧ RepV σ s w x (arr.getD i undef) := by
    intro i x hx
    obtain ⟨c, h1, h2, h3⟩ := h.2 i x hx
    rw [Array.getD_eq_getD_getElem?, h1]
    exact ⟨h2, h3⟩
  exact .ag h.1 (fun i x hx => (e i x hx).1) (fun i x hx => (e i x hx).2)

theorem RepsL.mem {σ s w cs arr} (h : RepsL σ s w cs arr) : ∀ u ∈ arr.toList, u.oneCell' = true := by
  intro u hu
  obtain ⟨j, hj, rfl⟩ := List.mem_iff_getElem.1 hu
  have hj' : j < cs.length := by rw [← h.1]; simpa using hj
  obtain ⟨c, h1, h2, _⟩ := h.2 j cs[j] (by simp [hj'])
  have : arr.toList[j] = c := by
    rw [← Array.getElem?_toList] at h1
    exact (List.getElem?_eq_some_iff.1 h1).2
  rw [this]; exact h2

theorem zero_reps {P : Program} {t : TypeId} {i : TyI} (ht : tyI P t = some i) (σ : Gh) (s : List Obj) (w : World) : ∃ z, (∀ w, (zeroValue t).run P w = .ok z w) ∧ RepsL σ s w (i.zero.map cv) z.cells ∧ z.cells.size = i.sz ∧ z.cells.toList = i.zero := by
  obtain ⟨ti, d, z, k1, k2, k3, k4, k5, k6, k7, k8, k9⟩ := tyI_spec ht
  refine ⟨z, fun w => by simp [zeroValue, typeInfo, k1, k3], ⟨by rw [← Array.length_toList, k6]; simp, fun j x hx => ?_⟩, by rw [← Array.length_toList, k6, k7], k6⟩
  rw [List.getElem?_map] at hx
  obtain ⟨v, hv, rfl⟩ := Option.map_eq_some_iff.1 hx
  exact ⟨v, by rw [← Array.getElem?_toList, k6]; exact hv, k8 v (List.mem_of_getElem? hv), cv_rep v⟩

/-! ### build -/

theorem foldl_put (off : Nat) : ∀ (l : List Value) (k : Nat) (cells : Array Value), off + k + l.length ≤ cells.size →
    ((l.zipIdx k).foldl (fun cs (x : Value × Nat) => cs.setIfInBounds (off + x.2) x.1) cells).size = cells.size ∧
    ∀ p, ((l.zipIdx k).foldl (fun cs (x : Value × Nat) => cs.setIfInBounds (off + x.2) x.1) cells)[p]? = if off + k ≤ p ∧ p < off + k + l.length then l[p - (off + k)]? else cells[p]?
  | [], k, cells, _ => by simp; intro p h1 h2; omega
  | v :: l, k, cells, h => by
    simp only [List.length_cons] at h
    simp only [List.zipIdx_cons, List.foldl_cons]
    obtain ⟨h1, h2⟩ := foldl_put off l (k + 1) (cells.setIfInBounds (off + k) v) (by simp; omega)
    refine ⟨by rw [h1]; simp, fun p => ?_⟩
    rw [h2 p]
    by_cases hp : p = off + k
    · subst hp
      rw [if_neg (by omega), if_pos (by simp), Array.getElem?_setIfInBounds_self_of_lt (by omega)]
      simp
    · rw [Array.getElem?_setIfInBounds_ne (by omega)]
      by_cases hq : off + (k + 1) ≤ p ∧ p < off + (k + 1) + l.length
      · rw [if_pos hq, if_pos (by simp only [List.length_cons]; omega)]
        rw [show p - (off + k) = (p - (off + (k + 1))) + 1 by omega]
        simp
      · rw [if_neg hq, if_neg (by simp only [List.length_cons]; omega)]

def fillV (place : Nat → Option (Nat × Nat)) (cs : List V) : List (Nat × V) → Option (List V)
  | [] => some cs
  | (i, v) :: rest => match place i with
    | none => none
    | some (off, size) => match cellsV v with
      | none => none
      | some ns => if ns.length = size ∧ off + ns.length ≤ cs.length then fillV place (putCells cs off ns) rest else none

theorem fill_sound {σ : Gh} {s : List Obj} {w : World} {place : Nat → Option (Nat × Nat)} : ∀ (parts : List (Nat × V)) (ps : List (Nat × Value)) (cs : List V) (arr : Array Value) (cs' : List V), RepsL σ s w cs arr →
    ps.length = parts.length → (∀ (j : Nat) i x, parts[j]? = some (i, x) → ∃ u, ps[j]? = some (i, u) ∧ RepV σ s w x u) → fillV place cs parts = some cs' →
    ∃ arr', Instr.fill place arr ps = some arr' ∧ RepsL σ s w cs' arr'
  | [], [], cs, arr, cs', hr, _, _, h => by
    simp only [fillV, Option.some.injEq] at h
    subst h
    exact ⟨arr, rfl, hr⟩
  | [], p :: ps, _, _, _, _, hl, _, _ => by simp at hl
  | _ :: _, [], _, _, _, _, hl, _, _ => by simp at hl
  | (i, v) :: parts, (i', u) :: ps, cs, arr, cs', hr, hl, hp, h => by
    obtain ⟨u', hu, hru⟩ := hp 0 i v rfl
    simp only [List.getElem?_cons_zero, Option.some.injEq, Prod.mk.injEq] at hu
    obtain ⟨rfl, rfl⟩ := hu
    simp only [fillV] at h
    split at h
    · cases h
    · rename_i off size hpl
      split at h
      · cases h
      · rename_i ns hns
        split at h
        · rename_i hc
          obtain ⟨h1, h2⟩ := cellsV_spec hru hns
          have hrep := foldl_put off u.cells.toList 0 arr (by simp; rw [hr.1, h1]; exact hc.2)
          have e : u.cells.zipIdx.foldl (fun cs (x : Value × Nat) => cs.setIfInBounds (off + x.2) x.1) arr = (u.cells.toList.zipIdx 0).foldl (fun cs (x : Value × Nat) => cs.setIfInBounds (off + x.2) x.1) arr := by
            rw [← Array.foldl_toList]; simp
          have hr' : RepsL σ s w (putCells cs off ns) ((u.cells.toList.zipIdx 0).foldl (fun cs (x : Value × Nat) => cs.setIfInBounds (off + x.2) x.1) arr) := by
            refine ⟨by rw [hrep.1, hr.1, length_putCells _ _ _ hc.2], fun j x hx => ?_⟩
            rw [getElem?_putCells _ _ _ hc.2] at hx
            rw [hrep.2]
            split at hx
            · rename_i hj
              rw [if_pos (by simp; omega)]
              obtain ⟨c, k1, k2, k3⟩ := h2 _ x hx
              exact ⟨c, by rw [Array.getElem?_toList]; simpa using k1, k2, k3⟩
            · rename_i hj
              rw [if_neg (by simp; omega)]
              exact hr.2 j x hx
          obtain ⟨arr', k1, k2⟩ := fill_sound parts ps _ _ cs' hr' (by simpa using hl) (fun j i x hx => hp (j + 1) i x (by simpa using hx)) h
          refine ⟨arr', ?_, k2⟩
          simp only [Instr.fill, hpl]
          rw [if_neg (by simp [h1, hc.1, hr.1]; omega)]
          rw [← e] at k1
          exact k1
        · cases h

def structPl (P : Program) (t : TypeId) : Option (List (Nat × Nat)) :=
  match P.underlying t with
  | some (.struct fields) => fields.toList.mapM fun f => (P.info? f.type).map fun i => (f.offset, i.size)
  | _ => none

def buildWp (P : Program) (t : TypeId) (parts : List (Nat × V)) (K : V → Prop) : Prop :=
  match tyI P t with
  | none => False
  | some i => match structPl P t with
    | some pl => match fillV (pl[·]?) (i.zero.map cv) parts with
      | some cs => K (.ag cs)
      | none => False
    | none => match arE P t with
      | some (_, z) => match fillV (fun j => some (j * z, z)) (i.zero.map cv) parts with
        | some cs => K (.ag cs)
        | none => False
      | none => False

theorem run_mapM_list {P : Program} {α β : Type} (f : α → Sem β) (g : α → Option β) (hfg : ∀ a b, g a = some b → ∀ w, (f a).run P w = .ok b w) (w : World) : ∀ (l : List α) (r : List β), l.mapM g = some r → (l.mapM f).run P w = .ok r w
  | [], r, h => by
    simp at h; subst h
    simp [List.mapM_nil]
  | a :: l, r, h => by
    rw [List.mapM_cons] at h
    cases ha : g a with
    | none => simp [ha] at h
    | some b =>
      cases hl : l.mapM g with
      | none => simp [ha, hl] at h
      | some r' =>
        simp [ha, hl] at h
        subst h
        rw [List.mapM_cons]
        simp [hfg a b ha w, run_mapM_list f g hfg w l r' hl]

theorem build_sound {P : Program} {t : TypeId} {σ : Gh} {s : List Obj} {w : World} {parts : List (Nat × V)} {ps : List (Nat × Value)} {K : V → Prop}
    (hl : ps.length = parts.length) (hp : ∀ (j : Nat) i x, parts[j]? = some (i, x) → ∃ u, ps[j]? = some (i, u) ∧ RepV σ s w x u) (h : buildWp P t parts K) :
    ∃ v c, (Instr.build t ps.toArray).run P w = .ok c w ∧ RepV σ s w v c ∧ K v := by
  unfold buildWp at h
  split at h
  · exact h.elim
  · rename_i i hi
    obtain ⟨z, hz, hzr, _, _⟩ := zero_reps hi σ s w
    split at h
    · rename_i pl hpl
      unfold structPl at hpl
      split at hpl
      · rename_i fields hu
        split at h
        · rename_i cs hcs
          obtain ⟨arr', k1, k2⟩ := fill_sound parts ps _ _ cs hzr hl hp hcs
          refine ⟨_, _, ?_, k2.ag, h⟩
          have hm : (fields.mapM (fun f => do pure (f.offset, ← sizeOf f.type) : Field → Sem (Nat × Nat))).run P w = .ok pl.toArray w := by
            have := run_mapM_list (P := P) (fun f => do pure (f.offset, ← sizeOf f.type) : Field → Sem (Nat × Nat)) (fun f => (P.info? f.type).map fun i => (f.offset, i.size))
              (fun f b hb w => by
                obtain ⟨ti, e1, rfl⟩ := Option.map_eq_some_iff.1 hb
                simp [sizeOf, typeInfo, e1]) w fields.toList pl hpl
            rw [← Array.toArray_toList (xs := fields)]
            rw [List.mapM_toArray, Sem.run_map, this]
            rfl
          have hpl' : (fun x : Nat => pl.toArray[x]?) = (fun x : Nat => pl[x]?) := by funext x; simp
          simp only [Instr.build, Sem.run_bind, hz, Result.andThen_ok, run_underlying hu, hm, hpl', k1, Sem.run_pure]
        · exact h.elim
      · cases hpl
    · split at h
      · rename_i len zz hzz
        obtain ⟨e, ti, h1, h2, h3⟩ := arE_spec hzz
        split at h
        · rename_i cs hcs
          obtain ⟨arr', k1, k2⟩ := fill_sound parts ps _ _ cs hzr hl hp hcs
          refine ⟨_, _, ?_, k2.ag, h⟩
          have hsz : (sizeOf e).run P w = .ok zz w := by simp [sizeOf, typeInfo, h2, h3]
          simp only [Instr.build, Sem.run_bind, hz, Result.andThen_ok, run_underlying h1, hsz, k1, Sem.run_pure]
        · exact h.elim
      · exact h.elim


/-! ### New objects -/

theorem new_obj {σ : Gh} {s : List Obj} {w : World} (hI : Inv σ s w) {sz : Nat} {els : List (List V)} {arr : Array Value} (E : TypeId) (hl : ∀ e ∈ els, e.length = sz) (hs : els.length * sz ≤ arr.size)
    (hc : ∀ (i j : Nat) (x : V), (els[i]?.bind (·[j]?)) = some x → ∃ u, arr[i * sz + j]? = some u ∧ u.oneCell' = true ∧ RepV σ s w x u) :
    Evolve σ s w (updG σ s.length (some (w.heap.size, 0))) (s ++ [⟨0, true, sz, els⟩]) (w.alloc (.cells arr E)) ∧
    Inv (updG σ s.length (some (w.heap.size, 0))) (s ++ [⟨0, true, sz, els⟩]) (w.alloc (.cells arr E)) := by
  refine push_obj (p := some (w.heap.size, 0)) hI rfl rfl rfl (by simp) (fun b hb => Go.RowKit.Below.heap_alloc w _ b hb) (fun b base h => by cases h; exact Nat.le_refl _)
    (fun hE => .inr ⟨w.heap.size, 0, arr, E, rfl, heap_alloc_new w _, hl, by simpa using hs, fun i j x hx => ?_⟩)
  obtain ⟨u, h1, h2, h3⟩ := hc i j x hx
  exact ⟨u, by simpa using h1, h2, h3.evolve hE⟩

theorem new_rf {σ : Gh} {s : List Obj} {w : World} {o : Obj} {b base : Nat} : RepV (updG σ s.length (some (b, base))) (s ++ [o]) w (.rf s.length o.g 0 0) (.pointer (some ⟨b, base, none⟩)) :=
  .rf o (by simp) (Nat.le_refl _) rfl (fun _ => ⟨b, base, updG_same _ _ _, by simp⟩)

def allocWp (P : Program) (t : TypeId) (s : List Obj) (K : V → List Obj → Prop) : Prop :=
  match tyI P t with
  | none => False
  | some i => K (.rf s.length 0 0 0) (s ++ [⟨0, true, i.sz, [i.zero.map cv]⟩])

theorem one_cells {cs : List V} {arr : Array Value} {σ : Gh} {s : List Obj} {w : World} (h : RepsL σ s w cs arr) (sz : Nat) :
    ∀ (i j : Nat) (x : V), (([cs] : List (List V))[i]?.bind (·[j]?)) = some x → ∃ u, arr[i * sz + j]? = some u ∧ u.oneCell' = true ∧ RepV σ s w x u := by
  intro i j x hx
  cases i with
  | zero => simp at hx; simpa using h.2 j x hx
  | succ n => simp at hx

theorem alloc_sound {P : Program} {t : TypeId} {σ : Gh} {s : List Obj} {w : World} {K : V → List Obj → Prop} (hI : Inv σ s w) (h : allocWp P t s K) :
    ∃ v c σ' s' w', (Instr.alloc t true (.tuple #[])).run P w = .ok c w' ∧ Evolve σ s w σ' s' w' ∧ Inv σ' s' w' ∧ RepV σ' s' w' v c ∧ K v s' := by
  unfold allocWp at h
  split at h
  · exact h.elim
  · rename_i i hi
    obtain ⟨z, hz, hr, hs, hl⟩ := zero_reps hi σ s w
    have := new_obj (els := [i.zero.map cv]) (sz := i.sz) (arr := z.cells) hI t (by simp; rw [← hl]; simpa using hs) (by simp [hs]) (one_cells hr i.sz)
    refine ⟨_, .pointer (some ⟨w.heap.size, 0, none⟩), _, _, w.alloc (.cells z.cells t), ?_, this.1, this.2, new_rf (o := ⟨0, true, i.sz, [i.zero.map cv]⟩), h⟩
    simp [Instr.alloc, hz, newVar, newRow]

def boxWp (s : List Obj) (x : V) (K : V → List Obj → Prop) : Prop :=
  match cellsV x with
  | none => False
  | some cs => K (.rf s.length 0 0 0) (s ++ [⟨0, true, cs.length, [cs]⟩])

theorem box_sound {P : Program} {t : TypeId} {σ : Gh} {s : List Obj} {w : World} {x : V} {u : Value} {K : V → List Obj → Prop} (hI : Inv σ s w) (hx : RepV σ s w x u) (h : boxWp s x K) :
    ∃ v c σ' s' w', (Instr.box t u).run P w = .ok c w' ∧ Evolve σ s w σ' s' w' ∧ Inv σ' s' w' ∧ RepV σ' s' w' v c ∧ K v s' := by
  unfold boxWp at h
  split at h
  · exact h.elim
  · rename_i cs hcs
    have hr : RepsL σ s w cs u.cells := cellsV_spec hx hcs
    have := new_obj (els := [cs]) (sz := cs.length) (arr := u.cells) hI t (by simp) (by simp [hr.1]) (one_cells hr _)
    refine ⟨_, .pointer (some ⟨w.heap.size, 0, none⟩), _, _, w.alloc (.cells u.cells t), ?_, this.1, this.2, new_rf (o := ⟨0, true, cs.length, [cs]⟩), h⟩
    simp [Instr.box, newVar, newRow]

/-! ### Slices that are built -/

def RepsE (σ : Gh) (s : List Obj) (w : World) (sz : Nat) (els : List (List V)) (arr : Array Value) : Prop :=
  (∀ e ∈ els, e.length = sz) ∧ arr.size = els.length * sz ∧
  ∀ (i j : Nat) (x : V), (els[i]?.bind (·[j]?)) = some x → ∃ c, arr[i * sz + j]? = some c ∧ c.oneCell' = true ∧ RepV σ s w x c

def fillE (sz : Nat) (els : List (List V)) : List (Nat × V) → Option (List (List V))
  | [] => some els
  | (i, v) :: rest => match cellsV v with
    | none => none
    | some ns => if i < els.length ∧ ns.length = sz then fillE sz (els.set i ns) rest else none

theorem fillE_sound {σ : Gh} {s : List Obj} {w : World} {sz : Nat} : ∀ (parts : List (Nat × V)) (ps : List (Nat × Value)) (els : List (List V)) (arr : Array Value) (els' : List (List V)), RepsE σ s w sz els arr →
    ps.length = parts.length → (∀ (j : Nat) i x, parts[j]? = some (i, x) → ∃ u, ps[j]? = some (i, u) ∧ RepV σ s w x u) → fillE sz els parts = some els' →
    ∃ arr', Instr.fill (fun i => some (i * sz, sz)) arr ps = some arr' ∧ RepsE σ s w sz els' arr' ∧ els'.length = els.length
  | [], [], els, arr, els', hr, _, _, h => by
    simp only [fillE, Option.some.injEq] at h
    subst h
    exact ⟨arr, rfl, hr, rfl⟩
  | [], p :: ps, _, _, _, _, hl, _, _ => by simp at hl
  | _ :: _, [], _, _, _, _, hl, _, _ => by simp at hl
  | (i, v) :: parts, (i', u) :: ps, els, arr, els', hr, hl, hp, h => by
    obtain ⟨u', hu, hru⟩ := hp 0 i v rfl
    simp only [List.getElem?_cons_zero, Option.some.injEq, Prod.mk.injEq] at hu
    obtain ⟨rfl, rfl⟩ := hu
    simp only [fillE] at h
    split at h
    · cases h
    · rename_i ns hns
      split at h
      · rename_i hc
        obtain ⟨hc1, hc2⟩ := hc
        obtain ⟨h1, h2⟩ := cellsV_spec hru hns
        obtain ⟨r1, r2, r3⟩ := hr
        have hb := Nat.mul_le_mul_right sz (show i' + 1 ≤ els.length from hc1)
        rw [Nat.add_mul, Nat.one_mul] at hb
        have hrep := foldl_put (i' * sz) u.cells.toList 0 arr (by simp; rw [h1]; omega)
        have e : u.cells.zipIdx.foldl (fun cs (x : Value × Nat) => cs.setIfInBounds (i' * sz + x.2) x.1) arr = (u.cells.toList.zipIdx 0).foldl (fun cs (x : Value × Nat) => cs.setIfInBounds (i' * sz + x.2) x.1) arr := by
          rw [← Array.foldl_toList]; simp
        have hr' : RepsE σ s w sz (els.set i' ns) ((u.cells.toList.zipIdx 0).foldl (fun cs (x : Value × Nat) => cs.setIfInBounds (i' * sz + x.2) x.1) arr) := by
          refine ⟨fun e he => ?_, by rw [hrep.1, r2, List.length_set], fun k j x hx => ?_⟩
          · rcases List.mem_or_eq_of_mem_set he with h' | h'
            · exact r1 e h'
            · rw [h']; exact hc2
          · rw [hrep.2]
            have hsize : u.cells.toList.length = sz := by simp [h1, hc2]
            by_cases hk : k = i'
            · subst hk
              rw [List.getElem?_set_self hc1] at hx
              simp only [Option.bind_some] at hx
              have hj := (List.getElem?_eq_some_iff.1 hx).1
              rw [if_pos (by rw [hsize]; omega)]
              obtain ⟨c, k1, k2, k3⟩ := h2 _ x hx
              refine ⟨c, ?_, k2, k3⟩
              rw [Array.getElem?_toList, ← k1]
              congr 1
              omega
            · rw [List.getElem?_set_ne (Ne.symm hk)] at hx
              have hj : j < sz := by
                cases he : els[k]? with
                | none => rw [he] at hx; cases hx
                | some e =>
                  rw [he] at hx
                  have := (List.getElem?_eq_some_iff.1 hx).1
                  rw [r1 e (List.mem_of_getElem? he)] at this
                  exact this
              rw [if_neg ?_]
              · exact r3 k j x hx
              · rw [hsize]
                rcases Nat.lt_or_gt_of_ne hk with hlt | hlt
                · have := Nat.mul_le_mul_right sz (show k + 1 ≤ i' from hlt)
                  rw [Nat.add_mul, Nat.one_mul] at this
                  omega
                · have := Nat.mul_le_mul_right sz (show i' + 1 ≤ k from hlt)
                  rw [Nat.add_mul, Nat.one_mul] at this
                  omega
        obtain ⟨arr', k1, k2, k3⟩ := fillE_sound parts ps _ _ els' hr' (by simpa using hl) (fun j i x hx => hp (j + 1) i x (by simpa using hx)) h
        refine ⟨arr', ?_, k2, by simpa using k3⟩
        simp only [Instr.fill]
        rw [if_neg (by simp [h1, hc2, r2]; omega)]
        rw [← e] at k1
        exact k1
      · cases h

end Go.VL
