/- The V-logic, part 3: loads, stores, addresses. -/
import Derived.Test.YtafbdphblilenaaVb
namespace Go.VL

structure TyI where
  sz : Nat
  agg : Bool
  byt : Nat
  zero : List Value

def tyI (P : Program) (t : TypeId) : Option TyI :=
  match P.info? t, P.underlying t with
  | some i, some d => match i.zero with
    | some z => if z.cells.size = i.size ∧ z.cells.toList.all Value.oneCell' = true then
        some ⟨i.size, (match d with | .struct _ | .array _ _ => true | _ => false), i.bytes, z.cells.toList⟩ else none
    | none => none
  | _, _ => none

theorem tyI_spec {P : Program} {t : TypeId} {i : TyI} (h : tyI P t = some i) : ∃ ti d z, P.info? t = some ti ∧ P.underlying t = some d ∧ ti.zero = some z ∧ ti.size = i.sz ∧ ti.bytes = i.byt ∧
    z.cells.toList = i.zero ∧ i.zero.length = i.sz ∧ (∀ v ∈ i.zero, v.oneCell' = true) ∧ (∀ w, (isAgg t).run P w = .ok i.agg w) := by
  unfold tyI at h
  cases h1 : P.info? t with
  | none => simp [h1] at h
  | some ti =>
    cases h2 : P.underlying t with
    | none => simp [h1, h2] at h
    | some d =>
      cases h3 : ti.zero with
      | none => simp [h1, h2, h3] at h
      | some z =>
        simp only [h1, h2, h3] at h
        split at h
        · rename_i hc
          simp only [Option.some.injEq] at h
          subst h
          refine ⟨ti, d, z, rfl, rfl, h3, rfl, rfl, rfl, by simpa using hc.1, fun v hv => List.all_eq_true.1 hc.2 v hv, fun w => ?_⟩
          cases d <;> simp [isAgg, run_underlying h2]
        · cases h

/-- A constant. -/
def cv : Value → V
  | .slice none 0 0 => .fu []
  | .agg _ => .any
  | .tuple _ => .any
  | v => .d (.sc v)

theorem cv_rep {σ s w} (v : Value) : RepV σ s w (cv v) v := by
  unfold cv
  split
  · exact .fu .nil
  · exact .any
  · exact .any
  · rename_i h1 h2 h3
    refine .d (.sc v ?_)
    cases v <;> simp_all [Value.oneCell']

def ev (e : Nat → V) : Operand → V
  | .tmp t => e t
  | .const v => cv v
  | .global _ => .any
  | .func f => .cl (.func f) [] []

def cellsV : V → Option (List V)
  | .ag cs => some cs
  | .un | .any | .tu _ => none
  | v => some [v]

theorem RepD.one {O w x u} (h : RepD O w x u) : u.oneCell' = true := by
  cases h <;> first | assumption | rfl

theorem cellsV_spec {σ : Gh} {s : List Obj} {w : World} {x : V} {u : Value} {cs : List V} (hr : RepV σ s w x u) (hc : cellsV x = some cs) :
    u.cells.size = cs.length ∧ ∀ (i : Nat) (y : V), cs[i]? = some y → ∃ c, u.cells[i]? = some c ∧ c.oneCell' = true ∧ RepV σ s w y c := by
  have single : ∀ {y : V} {c : Value}, c.oneCell' = true → RepV σ s w y c → c.cells.size = [y].length ∧ ∀ (i : Nat) (z : V), [y][i]? = some z → ∃ b, c.cells[i]? = some b ∧ b.oneCell' = true ∧ RepV σ s w z b := by
    intro y c h1 h2
    have hcells : c.cells = #[c] := by cases c <;> first | rfl | simp [Value.oneCell'] at h1
    refine ⟨by simp [hcells], fun i z hz => ?_⟩
    cases i with
    | zero => simp at hz; subst hz; exact ⟨c, by simp [hcells], h1, h2⟩
    | succ n => simp at hz
  cases hr with
  | d h => simp only [cellsV, Option.some.injEq] at hc; subst hc; exact single h.one (.d h)
  | ag h1 h2 h3 =>
    simp only [cellsV, Option.some.injEq] at hc; subst hc
    refine ⟨h1, fun i y hy => ?_⟩
    have hi := (List.getElem?_eq_some_iff.1 hy).1
    have e : ∀ {arr : Array Value}, i < arr.size → arr[i]? = some (arr.getD i undef) := fun h => by simp [Array.getD, h]
    exact ⟨_, e (by simp only [Value.cells]; omega), h2 i y hy, h3 i y hy⟩
  | tu h1 h2 => simp [cellsV] at hc
  | fu h => simp only [cellsV, Option.some.injEq] at hc; subst hc; exact single rfl (.fu h)
  | so o h1 h2 h3 h4 => simp only [cellsV, Option.some.injEq] at hc; subst hc; exact single h3 (.so o h1 h2 h3 h4)
  | rf o h1 h2 h3 h4 => simp only [cellsV, Option.some.injEq] at hc; subst hc; exact single h3 (.rf o h1 h2 h3 h4)
  | cl h1 h2 h3 h4 => simp only [cellsV, Option.some.injEq] at hc; subst hc; exact single rfl (.cl h1 h2 h3 h4)
  | un => simp [cellsV] at hc
  | any => simp [cellsV] at hc

/-! ### Loads -/

def mkVWp (agg : Bool) (n : Nat) (cs : List V) (K : V → Prop) : Prop :=
  match agg with
  | true => n ≤ cs.length ∧ K (.ag (cs.take n))
  | false => n = 1 ∧ match cs with | [] => False | v :: _ => K v

def loadWp (P : Program) (t : TypeId) (s : List Obj) (p : V) (K : V → Prop) : Prop :=
  match tyI P t with
  | none => False
  | some i => match p with
    | .d (.el cs) => mkVWp i.agg i.sz (cs.map .d) K
    | .rf id g k off => match s[id]? with
      | none => False
      | some o => o.g = g ∧ match o.els[k]? with
        | none => False
        | some cs => mkVWp i.agg i.sz (cs.drop off) K
    | _ => False

theorem addr_add {a : Addr} (h : a.spot = none) (n : Nat) : a.add n = ⟨a.block, a.off + n, none⟩ := by
  obtain ⟨b, o, sp⟩ := a
  simp only at h
  subst h
  unfold Addr.add
  split <;> simp_all

theorem run_loadVar {P : Program} {t : TypeId} {i : TyI} (ht : tyI P t = some i) {w : World} {a : Addr} (ha : a.spot = none) (f : Nat → Value) (n1 : i.agg = false → i.sz = 1)
    (hc : ∀ j, j < i.sz → w.cell? ⟨a.block, a.off + j, none⟩ = some (f j)) :
    (loadVar t a).run P w = .ok (if i.agg then .agg ((List.range i.sz).map f).toArray else f 0) w := by
  obtain ⟨ti, d, z, h1, h2, h3, h4, h5, h6, h7, h8, h9⟩ := tyI_spec ht
  have hsz : (sizeOf t).run P w = .ok i.sz w := by simp [sizeOf, typeInfo, h1, h4]
  cases hagg : i.agg with
  | true =>
    rw [hagg] at h9
    have hl := run_loadCells (P := P) w a i.sz f (fun j hj => by rw [addr_add ha]; exact hc j hj)
    simp [loadVar, h9, hsz, hl]
  | false =>
    rw [hagg] at h9
    have hc0 := hc 0 (by rw [n1 hagg]; omega)
    have e : (⟨a.block, a.off + 0, none⟩ : Addr) = a := by obtain ⟨b, o, sp⟩ := a; simp_all
    rw [e] at hc0
    simp [loadVar, h9, hc0]

theorem mkV_load {P : Program} {t : TypeId} {i : TyI} (ht : tyI P t = some i) {σ s w} {a : Addr} (ha : a.spot = none) {cs : List V} {K : V → Prop} (hk : mkVWp i.agg i.sz cs K)
    (hc : ∀ j x, cs[j]? = some x → ∃ u, w.cell? ⟨a.block, a.off + j, none⟩ = some u ∧ u.oneCell' = true ∧ RepV σ s w x u) :
    ∃ v c, (loadVar t a).run P w = .ok c w ∧ RepV σ s w v c ∧ K v := by
  have hf : ∃ f : Nat → Value, ∀ j x, cs[j]? = some x → w.cell? ⟨a.block, a.off + j, none⟩ = some (f j) ∧ (f j).oneCell' = true ∧ RepV σ s w x (f j) := by
    refine ⟨fun j => (w.cell? ⟨a.block, a.off + j, none⟩).getD undef, fun j x hx => ?_⟩
    obtain ⟨u, h1, h2, h3⟩ := hc j x hx
    simp only [h1, Option.getD_some]
    exact ⟨trivial, h2, h3⟩
  obtain ⟨f, hf⟩ := hf
  unfold mkVWp at hk
  cases hagg : i.agg with
  | true =>
    rw [hagg] at hk
    obtain ⟨hn, hk⟩ := hk
    have hget : ∀ j, j < i.sz → cs[j]? = some (cs[j]?.getD .any) := fun j hj => by simp [show j < cs.length by omega]
    refine ⟨_, _, run_loadVar ht ha f (by simp [hagg]) (fun j hj => (hf j _ (hget j hj)).1), ?_, hk⟩
    rw [hagg]
    simp only [if_true]
    have e : ∀ j, j < i.sz → ((List.range i.sz).map f).toArray.getD j undef = f j := fun j hj => by simp [Array.getD, hj]
    have e2 : ∀ j x, (cs.take i.sz)[j]? = some x → j < i.sz ∧ cs[j]? = some x := by
      intro j x hx
      rw [List.getElem?_take] at hx
      split at hx
      · exact ⟨by assumption, hx⟩
      · cases hx
    refine .ag (by simp [Nat.min_eq_left hn]) (fun j x hx => ?_) (fun j x hx => ?_)
    · rw [e j (e2 j x hx).1]; exact (hf j x (e2 j x hx).2).2.1
    · rw [e j (e2 j x hx).1]; exact (hf j x (e2 j x hx).2).2.2
  | false =>
    rw [hagg] at hk
    obtain ⟨hn, hk⟩ := hk
    cases cs with
    | nil => exact hk.elim
    | cons v rest =>
      refine ⟨v, _, run_loadVar ht ha f (fun _ => hn) (fun j hj => ?_), ?_, hk⟩
      · have : j = 0 := by omega
        subst this
        exact (hf 0 v rfl).1
      · rw [hagg]
        exact (hf 0 v rfl).2.2


theorem load_sound {P : Program} {t : TypeId} {σ : Gh} {s : List Obj} {w : World} {p : V} {u : Value} {K : V → Prop} (hI : Inv σ s w) (hp : RepV σ s w p u) (h : loadWp P t s p K) :
    ∃ v c, (Instr.loadAt t u).run P w = .ok c w ∧ RepV σ s w v c ∧ K v := by
  unfold loadWp at h
  cases ht : tyI P t with
  | none => rw [ht] at h; exact h.elim
  | some i =>
    rw [ht] at h
    simp only at h
    have fin : ∀ (a : Addr) (v : V) (c : Value), u = .pointer (some a) → (loadVar t a).run P w = .ok c w → RepV σ s w v c → K v → ∃ v c, (Instr.loadAt t u).run P w = .ok c w ∧ RepV σ s w v c ∧ K v := by
      rintro a v c rfl h1 h2 h3
      exact ⟨v, c, by simp [Instr.loadAt, Instr.sureAddr, h1], h2, h3⟩
    cases hp with
    | d hx =>
      cases hx with
      | el cs a f h1 h2 h3 =>
        obtain ⟨v, c, k1, k2, k3⟩ := mkV_load (σ := σ) (s := s) (w := w) ht h1 h (fun j x hx => by
          rw [List.getElem?_map] at hx
          obtain ⟨y, hy, rfl⟩ := Option.map_eq_some_iff.1 hx
          exact ⟨f j, (h2 j y hy).1, (h3 j y hy).one, .d (h3 j y hy)⟩)
        exact fin a v c rfl k1 k2 k3
      | _ => exact h.elim
    | rf o ho hg hu hk =>
      simp only [ho] at h
      obtain ⟨hgg, h⟩ := h
      obtain ⟨b, base, hs, rfl⟩ := hk hgg
      split at h
      · exact h.elim
      · rename_i id g k off _ cs hcs
        rcases hI.content _ o ho with ⟨h1, _⟩ | ⟨b', base', arr, E, h1, h2, h3, h4, h5⟩
        · rw [hs] at h1; cases h1
        · rw [hs] at h1; cases h1
          obtain ⟨v, c, k1, k2, k3⟩ := mkV_load (σ := σ) (s := s) (w := w) (a := ⟨b, base + k * o.sz + off, none⟩) ht rfl h (fun j x hx => by
            rw [List.getElem?_drop] at hx
            obtain ⟨y, k1, k2, k3⟩ := h5 k (off + j) x (by rw [hcs]; exact hx)
            refine ⟨y, ?_, k2, k3⟩
            simp only [World.cell?, h2]
            simpa [Nat.add_assoc] using k1)
          exact fin _ v c rfl k1 k2 k3
    | _ => exact h.elim

/-! ### Stores -/

def putCells (cs : List V) (off : Nat) (ns : List V) : List V := cs.take off ++ ns ++ cs.drop (off + ns.length)

def storeWp (P : Program) (t : TypeId) (s : List Obj) (p x : V) (K : List Obj → Prop) : Prop :=
  match tyI P t with
  | none => False
  | some i => match p with
    | .rf id g k off => match s[id]? with
      | none => False
      | some o => o.g = g ∧ o.live = true ∧ match o.els[k]? with
        | none => False
        | some cs => match cellsV x with
          | none => False
          | some ns => ns.length = i.sz ∧ off + i.sz ≤ cs.length ∧ K (s.set id { o with els := o.els.set k (putCells cs off ns) })
    | _ => False

theorem getElem?_putCells (cs : List V) (off : Nat) (ns : List V) (h : off + ns.length ≤ cs.length) (j : Nat) :
    (putCells cs off ns)[j]? = if off ≤ j ∧ j < off + ns.length then ns[j - off]? else cs[j]? := by
  have hl : (cs.take off).length = off := by simp; omega
  unfold putCells
  by_cases h1 : j < off
  · rw [if_neg (by omega), List.append_assoc, List.getElem?_append_left (by omega), List.getElem?_take, if_pos h1]
  · by_cases h2 : j < off + ns.length
    · rw [if_pos (by omega), List.append_assoc, List.getElem?_append_right (by omega), hl, List.getElem?_append_left (by omega)]
    · rw [if_neg (by omega), List.getElem?_append_right (by simp; omega), List.getElem?_drop]
      congr 1
      simp
      omega

theorem length_putCells (cs : List V) (off : Nat) (ns : List V) (h : off + ns.length ≤ cs.length) : (putCells cs off ns).length = cs.length := by
  simp [putCells]; omega


theorem updG_id (σ : Gh) (id : Nat) : updG σ id (σ id) = σ := by
  obtain ⟨m, b⟩ := σ
  unfold updG
  congr 1
  funext k
  split
  · rename_i h; rw [h]
  · rfl

/-- An object's cells are written: the block's array with the new cells in it. -/
theorem write_obj {σ : Gh} {s : List Obj} {w : World} (hI : Inv σ s w) {id : Nat} {o : Obj} (ho : s[id]? = some o) (hl : o.live = true) {k off : Nat} {cs ns : List V} (hcs : o.els[k]? = some cs)
    (hfit : off + ns.length ≤ cs.length) {b base : Nat} (hs : σ id = some (b, base)) {us : List Value} (hus : us.length = ns.length)
    (hrep : ∀ (j : Nat) (x : V), ns[j]? = some x → ∃ u, us[j]? = some u ∧ u.oneCell' = true ∧ RepV σ s w x u) (hone : ∀ u ∈ us, u.oneCell' = true) (P : Program) :
    ∃ w', (storeCells ⟨b, base + k * o.sz + off, none⟩ us).run P w = .ok () w' ∧ Evolve σ s w σ (s.set id { o with els := o.els.set k (putCells cs off ns) }) w' ∧
      Inv σ (s.set id { o with els := o.els.set k (putCells cs off ns) }) w' := by
  rcases hI.content _ o ho with ⟨h1, _⟩ | ⟨b', base', arr, E, h1, h2, h3, h4, h5⟩
  · rw [hs] at h1; cases h1
  rw [hs] at h1; cases h1
  have hk : k < o.els.length := (List.getElem?_eq_some_iff.1 hcs).1
  have hcl : cs.length = o.sz := h3 cs (List.mem_of_getElem? hcs)
  have hksz : k * o.sz + o.sz ≤ o.els.length * o.sz := by
    have := Nat.mul_le_mul_right o.sz (show k + 1 ≤ o.els.length from hk)
    rw [Nat.add_mul, Nat.one_mul] at this
    exact this
  have hrun := run_storeCells_at P b (base + k * o.sz + off) E us 0 arr w h2 (by rw [hus]; omega) hone
  simp only [Nat.add_zero] at hrun
  generalize harr' : (arr.toList.take (base + k * o.sz + off) ++ us ++ arr.toList.drop (base + k * o.sz + off + us.length)).toArray = arr' at hrun
  have hsize : arr'.size = arr.size := by rw [← harr']; simp; omega
  have hget : ∀ p, arr'[p]? = if base + k * o.sz + off ≤ p ∧ p < base + k * o.sz + off + us.length then us[p - (base + k * o.sz + off)]? else arr[p]? := by
    intro p
    have hl : (arr.toList.take (base + k * o.sz + off)).length = base + k * o.sz + off := by simp; omega
    rw [← harr', List.getElem?_toArray]
    by_cases g1 : p < base + k * o.sz + off
    · rw [if_neg (by omega), List.append_assoc, List.getElem?_append_left (by omega), List.getElem?_take, if_pos g1, Array.getElem?_toList]
    · by_cases g2 : p < base + k * o.sz + off + us.length
      · rw [if_pos (by omega), List.append_assoc, List.getElem?_append_right (by omega), hl, List.getElem?_append_left (by omega)]
      · rw [if_neg (by omega), List.getElem?_append_right (by simp; omega), List.getElem?_drop, Array.getElem?_toList]
        congr 1
        simp
        omega
  refine ⟨_, hrun, ?_⟩
  have := set_obj (p := σ id) (w' := w.setRow b arr') (o' := { o with els := o.els.set k (putCells cs off ns) }) hI ho hl rfl rfl rfl (by simp)
    (fun b1 _ hne => setRow_other w b b1 arr' (fun e => hne base (by rw [hs, e])))
    (fun b1 base1 arr1 E1 he hh => by
      rw [hs] at he; cases he
      rw [h2] at hh; cases hh
      exact ⟨arr', setRow_heap w b arr arr' E (0, 0) h2, hsize⟩)
    (Nat.le_refl _) (fun _ => ⟨rfl, rfl⟩) (fun b1 base1 he => .inl ⟨base1, he⟩)
    (fun hE => .inr ⟨b, base, arr', E, hs, setRow_heap w b arr arr' E (0, 0) h2, (by
      intro e he
      simp only at he
      rcases List.mem_or_eq_of_mem_set he with h' | h'
      · exact h3 e h'
      · rw [h', length_putCells _ _ _ hfit]; exact hcl), (by simp only [List.length_set]; omega), (by
      intro i j x hx
      simp only at hx ⊢
      rw [updG_id] at hE ⊢
      by_cases hik : i = k
      · subst hik
        rw [List.getElem?_set_self hk] at hx
        simp only [Option.bind_some] at hx
        rw [getElem?_putCells _ _ _ hfit] at hx
        split at hx
        · rename_i hin
          obtain ⟨u, k1, k2, k3⟩ := hrep _ x hx
          refine ⟨u, ?_, k2, k3.evolve hE⟩
          rw [hget, if_pos (by omega), ← k1]
          congr 1
          omega
        · rename_i hin
          obtain ⟨u, k1, k2, k3⟩ := h5 i j x (by rw [hcs]; exact hx)
          refine ⟨u, ?_, k2, k3.evolve hE⟩
          rw [hget, if_neg (by omega)]
          exact k1
      · rw [List.getElem?_set_ne (Ne.symm hik)] at hx
        obtain ⟨u, k1, k2, k3⟩ := h5 i j x hx
        refine ⟨u, ?_, k2, k3.evolve hE⟩
        rw [hget, if_neg ?_]
        · exact k1
        · have hjl : j < o.sz := by
            cases he : o.els[i]? with
            | none => rw [he] at hx; cases hx
            | some e =>
              rw [he] at hx
              have := (List.getElem?_eq_some_iff.1 hx).1
              rw [h3 e (List.mem_of_getElem? he)] at this
              exact this
          rcases Nat.lt_or_gt_of_ne hik with hlt | hlt
          · have := Nat.mul_le_mul_right o.sz (show i + 1 ≤ k from hlt)
            rw [Nat.add_mul, Nat.one_mul] at this
            omega
          · have := Nat.mul_le_mul_right o.sz (show k + 1 ≤ i from hlt)
            rw [Nat.add_mul, Nat.one_mul] at this
            omega)⟩)
  rw [updG_id] at this
  exact this

theorem store_sound {P : Program} {t : TypeId} {σ : Gh} {s : List Obj} {w : World} {p x : V} {u c : Value} {K : List Obj → Prop} (hI : Inv σ s w) (hp : RepV σ s w p u) (hx : RepV σ s w x c) (h : storeWp P t s p x K) :
    ∃ s' w', (Instr.storeAt t u c).run P w = .ok () w' ∧ Evolve σ s w σ s' w' ∧ Inv σ s' w' ∧ K s' := by
  unfold storeWp at h
  cases ht : tyI P t with
  | none => rw [ht] at h; exact h.elim
  | some i =>
    rw [ht] at h
    simp only at h
    cases hp with
    | rf o ho hg hu hk =>
      simp only [ho] at h
      obtain ⟨hgg, hl, h⟩ := h
      obtain ⟨b, base, hs, rfl⟩ := hk hgg
      split at h
      · exact h.elim
      · rename_i id g k off _ cs hcs
        split at h
        · exact h.elim
        · rename_i ns hns
          obtain ⟨h1, h2, h3⟩ := h
          obtain ⟨hc1, hc2⟩ := cellsV_spec hx hns
          obtain ⟨ti, d, z, k1, k2, k3, k4, k5, k6, k7, k8, k9⟩ := tyI_spec ht
          have hsz : ∀ w, (sizeOf t).run P w = .ok i.sz w := fun w => by simp [sizeOf, typeInfo, k1, k4]
          obtain ⟨w', r1, r2, r3⟩ := write_obj hI ho hl hcs (ns := ns) (off := off) (by omega) hs (us := c.cells.toList) (by simpa using hc1)
            (fun j x hx => by
              obtain ⟨u, e1, e2, e3⟩ := hc2 j x hx
              exact ⟨u, by rw [Array.getElem?_toList]; exact e1, e2, e3⟩)
            (fun u hu => by
              obtain ⟨j, hj, rfl⟩ := List.mem_iff_getElem.1 hu
              have hj' : j < ns.length := by simpa [hc1] using hj
              obtain ⟨u, e1, e2, e3⟩ := hc2 j ns[j] (by simp [hj'])
              have : c.cells.toList[j] = u := by
                rw [← Array.getElem?_toList] at e1
                exact (List.getElem?_eq_some_iff.1 e1).2
              rw [this]; exact e2) P
          refine ⟨_, w', ?_, r2, r3, h3⟩
          simp [Instr.storeAt, Instr.sureAddr, storeVar, hsz, hc1, h1, r1]
    | _ => exact h.elim

end Go.VL
