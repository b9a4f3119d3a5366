/- The V-logic, part 7: reslicing, len, append. -/
import Derived.Test.YtafbdphblilenaaVf
namespace Go.VL

def intV : V → Option Int
  | .d (.sc (.int _ n)) => some n
  | _ => none

theorem intV_spec {σ : Gh} {s : List Obj} {w : World} {x : V} {u : Value} {n : Int} (hr : RepV σ s w x u) (h : intV x = some n) : ∃ k, u = .int k n := by
  unfold intV at h
  split at h
  · simp only [Option.some.injEq] at h
    subst h
    cases hr with | d hr => ?_
    cases hr with | sc _ _ => exact ⟨_, rfl⟩
  · cases h

/-- The elements of a slice. -/
def elsV (s : List Obj) : V → Option (List (List V))
  | .d (.sl els) => some (els.map (·.map .d))
  | .fu els => some (els.map (·.map .d))
  | .so id g lo n => match s[id]? with
    | some o => if o.g = g ∧ lo + n ≤ o.els.length then some ((o.els.drop lo).take n) else none
    | none => none
  | _ => none

theorem elsV_map {els : List (List D)} {i j : Nat} {x : V} (h : ((els.map (·.map V.d))[i]?.bind (·[j]?)) = some x) : ∃ y, x = .d y ∧ (els[i]?.bind (·[j]?)) = some y := by
  rw [List.getElem?_map] at h
  cases he : els[i]? with
  | none => rw [he] at h; cases h
  | some e =>
    rw [he] at h
    simp only [Option.map_some, Option.bind_some, List.getElem?_map] at h
    obtain ⟨y, hy, rfl⟩ := Option.map_eq_some_iff.1 h
    exact ⟨y, rfl, hy⟩

/-- What an append, a copy, reads of a slice. -/
theorem elsV_spec {σ : Gh} {s : List Obj} {w : World} (hI : Inv σ s w) {x : V} {u : Value} {es : List (List V)} (hr : RepV σ s w x u) (h : elsV s x = some es) {z : Nat} (hz : ∀ e ∈ es, e.length = z) :
    ∃ a cap, u = .slice a es.length cap ∧ (a = none → es = []) ∧ es.length ≤ cap ∧ ∃ news : List Value, news.length = es.length * z ∧ (∀ c ∈ news, c.oneCell' = true) ∧
      (∀ ad, a = some ad → ∀ (j : Nat) (c : Value), news[j]? = some c → w.cell? (ad.add j) = some c) ∧
      ∀ (i j : Nat) (y : V), (es[i]?.bind (·[j]?)) = some y → ∃ c, news[i * z + j]? = some c ∧ c.oneCell' = true ∧ RepV σ s w y c := by
  -- from cells that are there
  have key : ∀ (a : Option Addr) (cap : Nat), (a = none → es = []) → es.length ≤ cap → (es ≠ [] → ∃ ad, a = some ad ∧ ad.spot = none ∧ ∀ (i j : Nat) (y : V), (es[i]?.bind (·[j]?)) = some y →
        ∃ c, w.cell? ⟨ad.block, ad.off + i * z + j, none⟩ = some c ∧ c.oneCell' = true ∧ RepV σ s w y c) →
      ∃ a' cap', Value.slice a es.length cap = .slice a' es.length cap' ∧ (a' = none → es = []) ∧ es.length ≤ cap' ∧ ∃ news : List Value, news.length = es.length * z ∧ (∀ c ∈ news, c.oneCell' = true) ∧
        (∀ ad, a' = some ad → ∀ (j : Nat) (c : Value), news[j]? = some c → w.cell? (ad.add j) = some c) ∧
        ∀ (i j : Nat) (y : V), (es[i]?.bind (·[j]?)) = some y → ∃ c, news[i * z + j]? = some c ∧ c.oneCell' = true ∧ RepV σ s w y c := by
    intro a cap h1 h2 h3
    refine ⟨a, cap, rfl, h1, h2, ?_⟩
    by_cases hne : es = []
    · subst hne
      exact ⟨[], by simp, by simp, by simp, by simp⟩
    · obtain ⟨ad, rfl, hsp, hc⟩ := h3 hne
      have hdiv : ∀ p, p < es.length * z → 0 < z ∧ p / z < es.length ∧ p / z * z + p % z = p ∧ p % z < z := by
        intro p hp
        have hzp : 0 < z := by
          rcases Nat.eq_zero_or_pos z with h' | h'
          · subst h'; simp at hp
          · exact h'
        refine ⟨hzp, ?_, by rw [Nat.mul_comm]; exact Nat.div_add_mod p z, Nat.mod_lt _ hzp⟩
        rw [Nat.div_lt_iff_lt_mul hzp]; exact hp
      have hat : ∀ p, p < es.length * z → ∃ y, (es[p / z]?.bind (·[p % z]?)) = some y := by
        intro p hp
        obtain ⟨g1, g2, g3, g4⟩ := hdiv p hp
        have hel : (es[p / z]'g2).length = z := hz _ (List.getElem_mem g2)
        exact ⟨(es[p / z]'g2)[p % z]'(by omega), by simp [g2, hel, g4]⟩
      have hcell : ∀ p, p < es.length * z → ∃ c, w.cell? ⟨ad.block, ad.off + p, none⟩ = some c ∧ c.oneCell' = true := by
        intro p hp
        obtain ⟨y, hy⟩ := hat p hp
        obtain ⟨c, k1, k2, _⟩ := hc _ _ y hy
        exact ⟨c, by rw [← k1, Nat.add_assoc, (hdiv p hp).2.2.1], k2⟩
      refine ⟨(List.range (es.length * z)).map fun p => (w.cell? ⟨ad.block, ad.off + p, none⟩).getD undef, by simp, ?_, ?_, ?_⟩
      · intro c hc'
        obtain ⟨p, hp, rfl⟩ := List.mem_map.1 hc'
        obtain ⟨c, k1, k2⟩ := hcell p (by simpa using hp)
        rw [k1]; exact k2
      · intro ad' had j c hj
        cases had
        rw [List.getElem?_map] at hj
        obtain ⟨p, hp, rfl⟩ := Option.map_eq_some_iff.1 hj
        have hlt : j < es.length * z := by simpa using (List.getElem?_eq_some_iff.1 hp).1
        obtain rfl : p = j := by
          have := (List.getElem?_eq_some_iff.1 hp).2
          simpa using this.symm
        obtain ⟨c, k1, _⟩ := hcell p hlt
        rw [addr_add hsp, k1]; rfl
      · intro i j y hy
        obtain ⟨c, k1, k2, k3⟩ := hc i j y hy
        refine ⟨c, ?_, k2, k3⟩
        have hij : i * z + j < es.length * z := by
          cases he : es[i]? with
          | none => rw [he] at hy; cases hy
          | some e =>
            rw [he] at hy
            have hj := (List.getElem?_eq_some_iff.1 hy).1
            rw [hz e (List.mem_of_getElem? he)] at hj
            have := Nat.mul_le_mul_right z (show i + 1 ≤ es.length from (List.getElem?_eq_some_iff.1 he).1)
            rw [Nat.add_mul, Nat.one_mul] at this
            omega
        rw [List.getElem?_map, List.getElem?_range hij]
        simp only [Option.map_some]
        rw [← Nat.add_assoc, k1]
        rfl
  have byval : ∀ (els : List (List D)) (a : Option Addr) (n cap : Nat), RepD (Own σ s) w (.sl els) (.slice a n cap) → es = els.map (·.map .d) → n = es.length ∧ (a = none → es = []) ∧ es.length ≤ cap ∧
      (es ≠ [] → ∃ ad, a = some ad ∧ ad.spot = none ∧ ∀ (i j : Nat) (y : V), (es[i]?.bind (·[j]?)) = some y →
        ∃ c, w.cell? ⟨ad.block, ad.off + i * z + j, none⟩ = some c ∧ c.oneCell' = true ∧ RepV σ s w y c) := by
    intro els a n cap hd he
    subst he
    cases hd with
    | nil => simp
    | sl _ ad _ sz f h1 h2 h3 h4 h5 =>
      refine ⟨by simp, by simp, by simpa using h1, fun hne => ⟨ad, rfl, h2 (by intro h'; subst h'; simp at hne), fun i j y hy => ?_⟩⟩
      obtain ⟨y', rfl, hy'⟩ := elsV_map hy
      have hsz : sz = z := by
        cases hei : els[i]? with
        | none => rw [hei] at hy'; cases hy'
        | some e =>
          have := h3 e (List.mem_of_getElem? hei)
          have h'' := hz (e.map .d) (List.mem_map.2 ⟨e, List.mem_of_getElem? hei, rfl⟩)
          simp at h''
          omega
      subst hsz
      exact ⟨f i j, (h4 i j y' hy').1, (h5 i j y' hy').one, .d (h5 i j y' hy')⟩
  unfold elsV at h
  split at h
  · simp only [Option.some.injEq] at h
    cases hr with | d hr => ?_
    have hu : ∃ a n cap, u = .slice a n cap := by cases hr <;> exact ⟨_, _, _, rfl⟩
    obtain ⟨a, n, cap, rfl⟩ := hu
    obtain ⟨rfl, e2, e3, e4⟩ := byval _ a n cap hr h.symm
    exact key a cap e2 e3 e4
  · simp only [Option.some.injEq] at h
    cases hr with | fu hr => ?_
    obtain ⟨e1, e2, e3, e4⟩ := byval _ _ _ _ hr h.symm
    rw [e1]
    exact key _ _ e2 (by omega) e4
  · rename_i id g lo n
    split at h
    case h_2 => cases h
    rename_i o ho
    split at h
    case isFalse => cases h
    rename_i hc
    simp only [Option.some.injEq] at h
    subst h
    have hlen : ((o.els.drop lo).take n).length = n := by simp; omega
    cases hr with | so o' ho' hg hu hk => ?_
    rw [ho] at ho'; cases ho'
    rcases hk hc.1 with ⟨_, ⟨a, rfl⟩, rfl, rfl⟩ | ⟨b, base, cap, E, arr, g1, g2, rfl, g4, g5⟩
    · have := key a 0 (by simp) (by simp) (by simp)
      simp only [List.take_zero] at this ⊢
      exact this
    · have := key (some ⟨b, base + lo * o.sz, none⟩) cap (by simp) (by omega) (fun hne => ⟨_, rfl, rfl, fun i j y hy => ?_⟩)
      · rw [hlen] at this ⊢; exact this
      · have hi : i < n ∧ (o.els[lo + i]?.bind (·[j]?)) = some y := by
          rw [List.getElem?_take] at hy
          split at hy
          · rw [List.getElem?_drop] at hy; exact ⟨by assumption, hy⟩
          · cases hy
        rcases hI.content _ o ho with ⟨h1, _⟩ | ⟨b', base', arr', E', h1, h2, h3, h4, h5⟩
        · rw [g1] at h1; cases h1
        · rw [g1] at h1; cases h1
          rw [g2] at h2; cases h2
          have hsz : o.sz = z := by
            cases hei : o.els[lo + i]? with
            | none => rw [hei] at hi; cases hi.2
            | some e =>
              have e1 := h3 e (List.mem_of_getElem? hei)
              have e2 := hz e (List.mem_of_getElem? (i := i) (by rw [List.getElem?_take, if_pos hi.1, List.getElem?_drop]; exact hei))
              omega
          subst hsz
          obtain ⟨c, k1, k2, k3⟩ := h5 (lo + i) j y hi.2
          refine ⟨c, ?_, k2, k3⟩
          simp only [World.cell?, g2]
          rw [Nat.add_mul] at k1
          simpa [Nat.add_assoc] using k1
  · cases h


/-! ### append -/

def appendWp (P : Program) (t : TypeId) (a x : V) (s : List Obj) (K : V → List Obj → Prop) : Prop :=
  match slTy P t with
  | none => False
  | some (_, i) => match elsV s x with
    | none => False
    | some ns => ((∀ e ∈ ns, e.length = i.sz) ∧ 0 < i.sz ∧ 0 < i.byt) ∧ match a with
      | .fu els => match els, x with
        | _ :: _, .d (.sl ds) => ((els.length + ds.length) * i.byt ≤ 140737488355328 ∧ ∀ e ∈ els, e.length = i.sz) ∧ K (.d (.sl (els ++ ds))) s
        | _, _ => ((els = [] ∨ 0 < ns.length) ∧ (els.length + ns.length) * i.byt ≤ 140737488355328 ∧ ∀ e ∈ els, e.length = i.sz) ∧
            K (.so s.length 0 0 (els.length + ns.length)) (s ++ [⟨0, true, i.sz, els.map (·.map .d) ++ ns⟩])
      | .so id g lo n => atG s id g fun o => (o.live = true ∧ o.sz = i.sz ∧ lo + n ≤ o.els.length ∧ (n + ns.length) * i.byt ≤ 140737488355328) ∧
          K (.so id (g + 1) 0 (n + ns.length)) (s.set id ⟨g + 1, true, i.sz, (o.els.drop lo).take n ++ ns⟩)
      | _ => False

/-- The cells of two lists of elements, one behind the other. -/
theorem app_content {σ : Gh} {s : List Obj} {w : World} {z : Nat} {es ns : List (List V)} {olds news : List Value} (ho : olds.length = es.length * z)
    (h1 : ∀ (i j : Nat) (y : V), (es[i]?.bind (·[j]?)) = some y → ∃ c, olds[i * z + j]? = some c ∧ c.oneCell' = true ∧ RepV σ s w y c)
    (h2 : ∀ (i j : Nat) (y : V), (ns[i]?.bind (·[j]?)) = some y → ∃ c, news[i * z + j]? = some c ∧ c.oneCell' = true ∧ RepV σ s w y c) :
    ∀ (i j : Nat) (y : V), ((es ++ ns)[i]?.bind (·[j]?)) = some y → ∃ c, (olds ++ news)[i * z + j]? = some c ∧ c.oneCell' = true ∧ RepV σ s w y c := by
  intro i j y hy
  by_cases hi : i < es.length
  · rw [List.getElem?_append_left hi] at hy
    obtain ⟨c, k1, k2, k3⟩ := h1 i j y hy
    refine ⟨c, ?_, k2, k3⟩
    rw [List.getElem?_append_left (by
      have := (List.getElem?_eq_some_iff.1 k1).1
      exact this)]
    exact k1
  · rw [List.getElem?_append_right (by omega)] at hy
    obtain ⟨c, k1, k2, k3⟩ := h2 _ j y hy
    refine ⟨c, ?_, k2, k3⟩
    have hmul : i * z = es.length * z + (i - es.length) * z := by
      rw [← Nat.add_mul]; congr 1; omega
    rw [List.getElem?_append_right (by rw [ho, hmul]; omega), ← k1]
    congr 1
    rw [ho, hmul]
    omega

theorem toArr_get {l : List Value} {arr : Array Value} {p : Nat} {c : Value} (h : l[p]? = some c) : (l.toArray ++ arr)[p]? = some c := by
  have hlt := (List.getElem?_eq_some_iff.1 h).1
  rw [Array.getElem?_append_left (by simpa using hlt)]
  simpa using h

theorem run_append_none {P : Program} {t ty e : TypeId} {ti : TypeInfo} (hu : P.underlying t = some (.slice e)) (hi : P.info? e = some ti) {w : World} {ux : Value} (hs : Src P ti.size t ux 0 [] w)
    (base : Option Addr) (n cap : Nat) (h : n ≤ cap) : (Builtin.append_ #[t, t] ty #[.slice base n cap, ux]).run P w = .ok (.slice base n cap) w := by
  cases base <;> simp [Builtin.append_, run_underlying hu, sizeOf, typeInfo, hi, hs.len, h, hs.cells, storeCells]

theorem append_sound {P : Program} {t ty : TypeId} {a x : V} {ua ux : Value} {σ : Gh} {s : List Obj} {w : World} {K : V → List Obj → Prop} (hI : Inv σ s w) (ha : RepV σ s w a ua) (hx : RepV σ s w x ux)
    (h : appendWp P t a x s K) : ∃ v r σ' s' w', (Builtin.append_ #[t, t] ty #[ua, ux]).run P w = .ok r w' ∧ Evolve σ s w σ' s' w' ∧ Inv σ' s' w' ∧ RepV σ' s' w' v r ∧ K v s' := by
  unfold appendWp at h
  split at h
  · exact h.elim
  rename_i e i hti
  obtain ⟨hu, hi⟩ := slTy_spec hti
  split at h
  · exact h.elim
  rename_i ns hns
  obtain ⟨⟨hz, hpos, hbp⟩, h⟩ := h
  obtain ⟨ti, d, z, k1, k2, k3, k4, k5, k6, k7, k8, k9⟩ := tyI_spec hi
  obtain ⟨ax, capx, rfl, xnone, xcap, news, n1, n2, n3, n4⟩ := elsV_spec hI hx hns hz
  have hzsz : z.cells.size = i.sz := by rw [← Array.length_toList, k6, k7]
  have hsrc : Src P ti.size t (.slice ax ns.length capx) ns.length news w := by
    rw [k4]
    cases ax with
    | none =>
      have : ns = [] := xnone rfl
      subst this
      have hn : news = [] := List.eq_nil_of_length_eq_zero (by simpa using n1)
      subst hn
      exact Src.ofNil w hu capx
    | some ad => exact Src.ofSlice w hu ad ns.length capx news n1 (n3 ad rfl) n2
  -- it grows
  have grow : ∀ (es : List (List V)) (base : Option Addr) (cap : Nat) (olds : List Value), olds.length = es.length * i.sz → (base = none → es = []) → (∀ e ∈ es, e.length = i.sz) →
      (∀ ad, base = some ad → ∀ (j : Nat) (c : Value), olds[j]? = some c → w.cell? (ad.add j) = some c) →
      (∀ (i' j : Nat) (y : V), (es[i']?.bind (·[j]?)) = some y → ∃ c, olds[i' * i.sz + j]? = some c ∧ c.oneCell' = true ∧ RepV σ s w y c) →
      cap < es.length + ns.length → (es.length + ns.length) * i.byt ≤ 140737488355328 →
      ∃ (arr : Array Value) (cap' : Nat), (Builtin.append_ #[t, t] ty #[.slice base es.length cap, .slice ax ns.length capx]).run P w = .ok (.slice (some ⟨w.heap.size, 0, none⟩) (es.length + ns.length) cap') (w.drew.alloc (.cells arr e)) ∧
        es.length + ns.length ≤ cap' ∧ arr.size = cap' * i.sz ∧
        ∀ (i' j : Nat) (y : V), ((es ++ ns)[i']?.bind (·[j]?)) = some y → ∃ c, arr[i' * i.sz + j]? = some c ∧ c.oneCell' = true ∧ RepV σ s w y c := by
    intro es base cap olds o1 o2 o3 o4 o5 hcap hbyt
    have hold : (Builtin.firstCells ti.size es.length (.slice base es.length cap)).run P w.drew = .ok olds.toArray w.drew := by
      rw [k4]
      cases base with
      | none =>
        have : es = [] := o2 rfl
        subst this
        have hn : olds = [] := List.eq_nil_of_length_eq_zero (by simpa using o1)
        subst hn
        exact run_firstCells_none w.drew i.sz 0 0 cap
      | some ad => exact run_firstCells_some w.drew i.sz es.length ad es.length cap olds o1 (by simpa using o4 ad rfl)
    have hle : es.length + ns.length ≤ (es.length + ns.length) * i.byt := Nat.le_mul_of_pos_right _ hbp
    have hrun := run_append_grow_src (P := P) w t t ty e ti z hu k1 k3 base es.length cap olds hold (.slice ax ns.length capx) ns.length news hsrc hcap (by omega) (growslice_fits hcap (by rw [k5]; exact hbyt))
    have hge := grownCap_ge w (es.length + ns.length) cap e
    refine ⟨_, _, hrun, hge, ?_, ?_⟩
    · simp only [Array.size_append, List.size_toArray, size_zeroCells, List.length_append, o1, n1, hzsz]
      rw [← Nat.add_mul, ← Nat.add_mul]
      congr 1
      omega
    · intro i' j y hy
      obtain ⟨c, c1, c2, c3⟩ := app_content o1 o5 n4 i' j y hy
      exact ⟨c, toArr_get c1, c2, c3⟩
  have hboth : ∀ (es : List (List V)), (∀ e ∈ es, e.length = i.sz) → ∀ e ∈ es ++ ns, e.length = i.sz := by
    intro es hes e he
    rcases List.mem_append.1 he with h' | h'
    · exact hes e h'
    · exact hz e h'
  obtain ⟨hEd, hId⟩ := drew_obj hI
  split at h
  · -- a full slice
    rename_i els
    have hels : elsV s (.fu els) = some (els.map (·.map .d)) := rfl
    have fuz : (∀ e ∈ els, e.length = i.sz) → ∀ e ∈ els.map (·.map V.d), e.length = i.sz := by
      intro hh e he
      obtain ⟨e', he', rfl⟩ := List.mem_map.1 he
      simpa using hh e' he'
    split at h
    · -- by value
      rename_i d0 drest ds
      obtain ⟨⟨hb, hl⟩, h⟩ := h
      have hnds : ns = ds.map (·.map .d) := by simpa [elsV] using hns.symm
      obtain ⟨base, cap, hua, a1, a2, olds, o1, o2, o3, o4⟩ := elsV_spec hI ha hels (fuz hl)
      have hcapeq : cap = (d0 :: drest).length := by
        cases ha with | fu ha => ?_
        simp only [Value.slice.injEq] at hua
        omega
      subst hua
      have hesl : ((d0 :: drest).map (·.map V.d)).length = (d0 :: drest).length := by simp
      by_cases hm : ns.length = 0
      · have hds : ds = [] := by
          rw [hnds] at hm
          simpa using hm
        subst hds
        have hn0 : ns = [] := by simpa using hnds
        subst hn0
        have hnew : news = [] := List.eq_nil_of_length_eq_zero (by simpa using n1)
        subst hnew
        cases base with
        | none => simp at a1
        | some ad =>
          refine ⟨_, .slice (some ad) ((d0 :: drest).map (·.map V.d)).length cap, σ, s, w, run_append_none hu k1 hsrc _ _ _ (by simp [hcapeq]), Evolve.refl _ _ _, hI, ?_, h⟩
          · rw [List.append_nil]
            exact .d (toD_spec ha rfl)
      · obtain ⟨arr, cap', g1, g2, g3, g4⟩ := grow ((d0 :: drest).map (·.map .d)) base cap olds o1 a1 (fuz hl) o3 o4 (by rw [hesl]; omega) (by rw [hesl, hnds]; simpa using hb)
        obtain ⟨hE, hI'⟩ := alloc_obj hId (.cells arr e)
        refine ⟨_, _, σ, s, _, g1, hEd.trans hE, hI', ?_, h⟩
        have hlen : ((d0 :: drest).map (·.map V.d)).length + ns.length = ((d0 :: drest) ++ ds).length := by rw [hnds]; simp; omega
        rw [hlen]
        refine .d (RepD.of_row (sz := i.sz) (by rw [← hlen]; exact g2) (fun x hx => ?_) (fun ho => by have := own_lt hId ho; simp at this) (fun a j y hy => ?_))
        · rcases List.mem_append.1 hx with h' | h'
          · exact hl x h'
          · have := hz (x.map .d) (by rw [hnds]; exact List.mem_map.2 ⟨x, h', rfl⟩)
            simpa using this
        · have hy' : (((d0 :: drest).map (·.map V.d) ++ ns)[a]?.bind (·[j]?)) = some (.d y) := by
            rw [hnds, ← List.map_append, List.getElem?_map]
            cases hea : ((d0 :: drest) ++ ds)[a]? with
            | none => rw [hea] at hy; cases hy
            | some ea =>
              rw [hea] at hy
              simp only [Option.map_some, Option.bind_some, List.getElem?_map]
              rw [show ea[j]? = some y from hy]
              rfl
          obtain ⟨c, c1, c2, c3⟩ := g4 a j _ hy'
          refine ⟨c, by
            show (w.drew.alloc (.cells arr e)).cell? ⟨w.drew.heap.size, 0 + a * i.sz + j, none⟩ = some c
            rw [World.cell?_alloc_new]; simpa using c1, ?_⟩
          have := (c3.evolve hEd).evolve hE
          cases this with | d h' => exact h'
    · -- a new object
      obtain ⟨⟨hne, hb, hl⟩, h⟩ := h
      obtain ⟨base, cap, hua, a1, a2, olds, o1, o2, o3, o4⟩ := elsV_spec hI ha hels (fuz hl)
      have hcapeq : cap = els.length := by
        cases ha with | fu ha => ?_
        simp only [Value.slice.injEq] at hua
        omega
      subst hua
      have hesl : (els.map (·.map V.d)).length = els.length := by simp
      by_cases hm : ns.length = 0
      · have he0 : els = [] := hne.resolve_right (by omega)
        subst he0
        have hn0 : ns = [] := List.eq_nil_of_length_eq_zero hm
        subst hn0
        have hnew : news = [] := List.eq_nil_of_length_eq_zero (by simpa using n1)
        subst hnew
        have := push_obj (p := none) (o' := ⟨0, true, i.sz, []⟩) (w' := w) hI rfl rfl rfl (Nat.le_refl _) (fun _ _ => rfl) (fun _ _ h' => by cases h') (fun _ => .inl ⟨rfl, rfl⟩)
        refine ⟨_, .slice base 0 cap, _, _, w, run_append_none hu k1 hsrc _ _ _ (Nat.zero_le _), this.1, this.2, ?_, h⟩
        · subst hcapeq
          exact .so ⟨0, true, i.sz, []⟩ (by simp) (Nat.le_refl _) rfl (fun _ => .inl ⟨updG_same _ _ _, ⟨base, rfl⟩, rfl, rfl⟩)
      · obtain ⟨arr, cap', g1, g2, g3, g4⟩ := grow (els.map (·.map .d)) base cap olds o1 a1 (fuz hl) o3 o4 (by rw [hesl]; omega) (by rw [hesl]; exact hb)
        have := new_obj (els := els.map (·.map .d) ++ ns) (sz := i.sz) (arr := arr) hId e (hboth _ (fuz hl)) (by rw [g3]; exact Nat.mul_le_mul_right _ (by simpa using g2))
          (fun i' j y hy => let ⟨c, c1, c2, c3⟩ := g4 i' j y hy; ⟨c, c1, c2, c3.evolve hEd⟩)
        refine ⟨_, _, _, _, _, g1, hEd.trans this.1, this.2, ?_, h⟩
        rw [hesl]
        refine .so ⟨0, true, i.sz, els.map (·.map .d) ++ ns⟩ (by simp) (Nat.le_refl _) rfl (fun _ => .inr ⟨w.heap.size, 0, cap', e, arr, updG_same _ _ _, heap_alloc_new w.drew _, by simp, by rw [hesl] at g2; exact g2, by simp [g3]⟩)
  · -- a slice of the call's own
    rename_i id g lo n
    obtain ⟨o, ho, hg, ⟨hlive, hosz, hlo, hb⟩, h⟩ := atG_spec h
    have hels : elsV s (.so id g lo n) = some ((o.els.drop lo).take n) := by simp [elsV, ho, hg, hlo]
    have hesl : ((o.els.drop lo).take n).length = n := by simp; omega
    have hez : ∀ e ∈ (o.els.drop lo).take n, e.length = i.sz := by
      intro e he
      have he' : e ∈ o.els := List.mem_of_mem_drop (List.mem_of_mem_take he)
      rcases hI.content _ o ho with ⟨_, h0⟩ | ⟨b, base, arr, E, h1, h2, h3, h4, h5⟩
      · rw [h0] at he'; cases he'
      · rw [← hosz]; exact h3 e he'
    obtain ⟨base, cap, hua, a1, a2, olds, o1, o2, o3, o4⟩ := elsV_spec hI ha hels hez
    rw [hesl] at hua a2
    cases ha with | so o' ho' hg' hu' hk => ?_
    rw [ho] at ho'; cases ho'
    have hk' := hk hg
    by_cases hcap : cap < n + ns.length
    · -- it grows
      obtain ⟨arr, cap', g1, g2, g3, g4⟩ := grow _ base cap olds o1 a1 hez o3 o4 (by rw [hesl]; exact hcap) (by rw [hesl]; exact hb)
      rw [hesl] at g1 g2
      subst hua
      have := set_obj (p := some (w.heap.size, 0)) (o' := ⟨g + 1, true, i.sz, (o.els.drop lo).take n ++ ns⟩) (w' := w.drew.alloc (.cells arr e)) hI ho hlive rfl rfl rfl (by simp)
        (fun b hb' _ => Go.RowKit.Below.heap_alloc w.drew _ b hb')
        (fun b base' arr' E' he hh => ⟨arr', by rw [Go.RowKit.Below.heap_alloc w.drew _ b (by exact lt_heap hh)]; exact hh, rfl⟩)
        (by simp only; omega) (fun h' => by simp only at h'; omega) (fun b base' he => by cases he; exact .inr (Nat.le_refl _))
        (fun hE => .inr ⟨w.heap.size, 0, arr, e, rfl, heap_alloc_new w.drew _, hboth _ hez, by simp only [List.length_append, hesl, g3]; rw [Nat.zero_add]; exact Nat.mul_le_mul_right _ g2, fun i' j y hy => by
          obtain ⟨c, c1, c2, c3⟩ := g4 i' j y hy
          exact ⟨c, by simpa using c1, c2, c3.evolve hE⟩⟩)
      refine ⟨_, _, _, _, _, g1, this.1, this.2, ?_, h⟩
      exact .so ⟨g + 1, true, i.sz, (o.els.drop lo).take n ++ ns⟩ (by simp [(List.getElem?_eq_some_iff.1 ho).1]) (Nat.le_refl _) rfl (fun _ => .inr ⟨w.heap.size, 0, cap', e, arr, updG_same _ _ _, heap_alloc_new w.drew _, by simp, g2, by simp [g3]⟩)
    · -- there is room
      have hroom : n + ns.length ≤ cap := by omega
      rcases hk' with ⟨hs0, ⟨aa, hua'⟩, rfl, rfl⟩ | ⟨b, bs, cp, E, arr, hs1, hh, hua', hcp, hfit⟩
      · -- no block yet: nothing is appended
        rw [hua] at hua'
        simp only [Value.slice.injEq] at hua'
        obtain ⟨rfl, _, rfl⟩ := hua'
        have hn0 : ns = [] := List.eq_nil_of_length_eq_zero (by omega)
        subst hn0
        have hnew : news = [] := List.eq_nil_of_length_eq_zero (by simpa using n1)
        subst hnew
        subst hua
        have := set_obj (p := none) (o' := ⟨g + 1, true, i.sz, (o.els.drop 0).take 0 ++ []⟩) (w' := w) hI ho hlive rfl rfl rfl (Nat.le_refl _) (fun _ _ _ => rfl)
          (fun _ _ arr' _ _ hh => ⟨arr', hh, rfl⟩) (by simp only; omega) (fun h' => by simp only at h'; omega) (fun _ _ he => by cases he) (fun _ => .inl ⟨rfl, by simp⟩)
        refine ⟨_, .slice base 0 0, _, _, w, run_append_none hu k1 hsrc _ _ _ (Nat.le_refl _), this.1, this.2, ?_, h⟩
        · exact .so ⟨g + 1, true, i.sz, (o.els.drop 0).take 0 ++ []⟩ (by simp [(List.getElem?_eq_some_iff.1 ho).1]) (Nat.le_refl _) rfl (fun _ => .inl ⟨updG_same _ _ _, ⟨base, rfl⟩, rfl, rfl⟩)
      · rw [hua] at hua'
        simp only [Value.slice.injEq] at hua'
        obtain ⟨rfl, _, rfl⟩ := hua'
        subst hua
        have hq : bs + lo * o.sz + n * i.sz + news.length ≤ arr.size := by
          rw [n1, ← hosz]
          have e1 : (lo + cap) * o.sz = lo * o.sz + cap * o.sz := Nat.add_mul _ _ _
          have e2 := Nat.mul_le_mul_right o.sz hroom
          rw [Nat.add_mul] at e2
          omega
        have hst := run_storeCells_at P b (bs + lo * o.sz + n * i.sz) E news 0 arr w hh (by omega) n2
        simp only [Nat.add_zero] at hst
        generalize harr' : (arr.toList.take (bs + lo * o.sz + n * i.sz) ++ news ++ arr.toList.drop (bs + lo * o.sz + n * i.sz + news.length)).toArray = arr' at hst
        have hsize : arr'.size = arr.size := by rw [← harr']; simp; omega
        have hlt : ∀ p, p < bs + lo * o.sz + n * i.sz → arr'[p]? = arr[p]? := by
          intro p hp
          rw [← harr', List.getElem?_toArray, List.append_assoc, List.getElem?_append_left (by simp; omega), List.getElem?_take, if_pos hp, Array.getElem?_toList]
        have hin : ∀ q, q < news.length → arr'[bs + lo * o.sz + n * i.sz + q]? = news[q]? := by
          intro q hq'
          have hl : (arr.toList.take (bs + lo * o.sz + n * i.sz)).length = bs + lo * o.sz + n * i.sz := by simp; omega
          rw [← harr', List.getElem?_toArray, List.append_assoc, List.getElem?_append_right (by omega), hl, List.getElem?_append_left (by omega)]
          congr 1
          omega
        have := set_obj (p := some (b, bs + lo * o.sz)) (o' := ⟨g + 1, true, i.sz, (o.els.drop lo).take n ++ ns⟩) (w' := w.setRow b arr') hI ho hlive rfl rfl rfl (by simp)
          (fun b1 _ hne => setRow_other w b b1 arr' (fun e => hne bs (by rw [hs1, e])))
          (fun b1 base1 arr1 E1 he hh' => by
            rw [hs1] at he; cases he
            rw [hh] at hh'; cases hh'
            exact ⟨arr', setRow_heap w b arr arr' E (0, 0) hh, hsize⟩)
          (by simp only; omega) (fun h' => by simp only at h'; omega) (fun b1 base1 he => by cases he; exact .inl ⟨bs, hs1⟩)
          (fun hE => .inr ⟨b, bs + lo * o.sz, arr', E, rfl, setRow_heap w b arr arr' E (0, 0) hh, hboth _ hez, (by
            simp only [List.length_append, hesl, Nat.add_mul]
            rw [hsize]
            omega), fun i' j y hy => by
            obtain ⟨c, c1, c2, c3⟩ := app_content (z := i.sz) o1 o4 n4 i' j y hy
            refine ⟨c, ?_, c2, c3.evolve hE⟩
            simp only
            by_cases hij : i' * i.sz + j < olds.length
            · rw [List.getElem?_append_left hij] at c1
              rw [hlt _ (by rw [o1, hesl] at hij; omega)]
              have hc := o3 ⟨b, bs + lo * o.sz, none⟩ rfl _ c c1
              rw [addr_add rfl] at hc
              simp only [World.cell?, hh] at hc
              simpa [Nat.add_assoc] using hc
            · rw [List.getElem?_append_right (by omega)] at c1
              have hlt' := (List.getElem?_eq_some_iff.1 c1).1
              have := hin _ hlt'
              rw [c1] at this
              rw [← this]
              congr 1
              rw [o1, hesl] at *
              omega⟩)
        refine ⟨_, .slice (some ⟨b, bs + lo * o.sz, none⟩) (n + ns.length) cap, _, _, w.setRow b arr', ?_, this.1, this.2, ?_, h⟩
        · have hcells := hsrc.cells
          rw [k4] at hcells
          simp [Builtin.append_, run_underlying hu, sizeOf, typeInfo, k1, Builtin.lenOf, hroom, hcells, k4, Addr.add_lit, hst]
        · exact .so ⟨g + 1, true, i.sz, (o.els.drop lo).take n ++ ns⟩ (by simp [(List.getElem?_eq_some_iff.1 ho).1]) (Nat.le_refl _) rfl
            (fun _ => .inr ⟨b, bs + lo * o.sz, cap, E, arr', updG_same _ _ _, setRow_heap w b arr arr' E (0, 0) hh, by simp, hroom, by rw [hsize]; simp only [Nat.zero_add]; rw [← hosz, Nat.add_mul] at *; omega⟩)
  · exact h.elim

end Go.VL
