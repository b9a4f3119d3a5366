/- The V-logic, part 14: a region whose order is drawn. One run in the order of the text serves every order, if whatever two operations are not ordered by the region's edges do not touch each other. -/
import Derived.Test.YtafbdphblilenaaVm
namespace Go.VL

/-! ### What must come before what -/

def edgeMask (acc : List Nat) (es : List Edge) : Nat :=
  es.foldl (fun m e => if Region.binds .any e then m ||| 2 ^ e.on ||| acc.getD e.on 0 else m) 0

def masks : List Oper → List Nat → List Nat
  | [], acc => acc
  | o :: rest, acc => masks rest (acc ++ [edgeMask acc o.after.toList])

/-- i must come before j. -/
def befB (ms : List Nat) (i j : Nat) : Bool := (ms.getD j 0).testBit i

def Closed (full : List Oper) (L : Nat → Prop) : Prop := ∀ j o, full[j]? = some o → L j → ∀ e ∈ o.after.toList, Region.binds .any e = true → L e.on

theorem edgeMask_spec {L : Nat → Prop} {acc : List Nat} (hacc : ∀ j i, (acc.getD j 0).testBit i = true → L j → L i) : ∀ (es : List Edge) (m : Nat), (∀ e ∈ es, Region.binds .any e = true → L e.on) → (∀ i, m.testBit i = true → L i) →
    ∀ i, (es.foldl (fun m e => if Region.binds .any e then m ||| 2 ^ e.on ||| acc.getD e.on 0 else m) m).testBit i = true → L i
  | [], m, _, hm, i, h => hm i h
  | e :: es, m, he, hm, i, h => by
    simp only [List.foldl_cons] at h
    refine edgeMask_spec hacc es _ (fun e' h' => he e' (List.mem_cons_of_mem _ h')) (fun i' h' => ?_) i h
    split at h'
    · rename_i hb
      have hon := he e (List.mem_cons_self ..) hb
      rw [Nat.testBit_or, Nat.testBit_or, Nat.testBit_two_pow] at h'
      simp only [Bool.or_eq_true, decide_eq_true_eq] at h'
      rcases h' with (h' | h') | h'
      · exact hm i' h'
      · rw [← h']; exact hon
      · exact hacc _ _ h' hon
    · exact hm i' h'

theorem masks_spec {full : List Oper} {L : Nat → Prop} (hL : Closed full L) : ∀ (l : List Oper) (acc : List Nat), (∀ j, l[j]? = full[acc.length + j]?) → (∀ j i, (acc.getD j 0).testBit i = true → L j → L i) →
    ∀ j i, befB (masks l acc) i j = true → L j → L i
  | [], acc, _, hacc, j, i, h, hj => hacc j i h hj
  | o :: rest, acc, hl, hacc, j, i, h, hj => by
    simp only [masks] at h
    refine masks_spec hL rest _ (fun k => by have := hl (k + 1); simpa [Nat.add_assoc, Nat.add_comm 1 k] using this) (fun k i' hk hLk => ?_) j i h hj
    by_cases hlt : k < acc.length
    · rw [List.getD_eq_getElem?_getD, List.getElem?_append_left hlt, ← List.getD_eq_getElem?_getD] at hk
      exact hacc k i' hk hLk
    · by_cases heq : k = acc.length
      · subst heq
        rw [List.getD_eq_getElem?_getD, List.getElem?_append_right (Nat.le_refl _)] at hk
        simp only [Nat.sub_self, List.getElem?_cons_zero, Option.getD_some] at hk
        have ho : full[acc.length]? = some o := by have := hl 0; simpa using this.symm
        exact edgeMask_spec hacc _ 0 (fun e he hb => hL _ o ho hLk e he hb) (by simp) i' hk
      · rw [List.getD_eq_getElem?_getD, List.getElem?_eq_none (by simp; omega)] at hk
        simp at hk

/-- What an operation reads and writes of the objects, as told. -/
abbrev Foots := List (Nat × List Nat × List Nat)

def footOf : Foots → Nat → Option (List Nat × List Nat)
  | [], _ => none
  | (k, f) :: l, i => if k = i then some f else footOf l i

def wrOf (fs : Foots) (i : Nat) : List Nat :=
  match footOf fs i with
  | some (_, w) => w
  | none => []

def allW : Foots → List Nat
  | [] => []
  | (_, _, w) :: l => w ++ allW l

theorem allW_mem : ∀ {fs : Foots} {i id : Nat}, id ∈ wrOf fs i → id ∈ allW fs
  | [], i, id, h => by simp [wrOf, footOf] at h
  | (k, r, w) :: l, i, id, h => by
    unfold wrOf at h
    simp only [footOf] at h
    simp only [allW, List.mem_append]
    by_cases hk : k = i
    · rw [if_pos hk] at h; exact .inl h
    · rw [if_neg hk] at h; exact .inr (allW_mem h)

/-- What operation i may read. -/
def rdP (fs : Foots) (i id : Nat) : Prop :=
  match footOf fs i with
  | some (r, _) => id ∈ r
  | none => id ∉ allW fs

def compat (fs : Foots) (i j : Nat) : Bool :=
  match footOf fs i, footOf fs j with
  | some (r, w), some (r', w') => w.all (fun id => !r'.contains id && !w'.contains id) && w'.all fun id => !r.contains id
  | _, _ => true

/-- Any two operations: ordered by the edges, or apart in the frame and in the objects. -/
def pairOk (full : List Oper) (ms : List Nat) (bars : List Nat) (fs : Foots) (i j : Nat) (oi oj : Oper) : Bool :=
  befB ms i j || (oi.apart full.toArray oj && oj.apart full.toArray oi && !bars.contains i && !bars.contains j && compat fs i j)

def noSel (o : Oper) : Bool := match o.op with | .select .. => false | _ => true

def drawOk (full : List Oper) (bars : List Nat) (fs : Foots) : Bool :=
  let ms := masks full []
  full.zipIdx.all (fun (oi, i) => noSel oi && oi.after.toList.all (fun e => !Region.binds .any e || decide (e.on < i)) && full.zipIdx.all fun (oj, j) => !decide (i < j) || pairOk full ms bars fs i j oi oj)

theorem compat_spec {fs : Foots} {i j : Nat} (h : compat fs i j = true) {id : Nat} (hw : id ∈ wrOf fs i) : ¬ rdP fs j id ∧ id ∉ wrOf fs j := by
  have ha := allW_mem hw
  unfold compat at h
  unfold wrOf at hw ⊢
  unfold rdP
  cases hi : footOf fs i with
  | none => rw [hi] at hw; cases hw
  | some x =>
    obtain ⟨r, w⟩ := x
    rw [hi] at hw h
    simp only at hw
    cases hj : footOf fs j with
    | none => exact ⟨fun h => h ha, by simp⟩
    | some y =>
      obtain ⟨r', w'⟩ := y
      rw [hj] at h
      simp only [Bool.and_eq_true, List.all_eq_true] at h
      have := h.1 id hw
      simp only [Bool.and_eq_true, Bool.not_eq_true', List.contains_eq_mem, decide_eq_false_iff_not] at this
      exact this

theorem compat_comm {fs : Foots} {i j : Nat} (h : compat fs i j = true) : compat fs j i = true := by
  unfold compat at *
  cases hi : footOf fs i with
  | none => cases footOf fs j <;> rfl
  | some x =>
    cases hj : footOf fs j with
    | none => rfl
    | some y =>
      obtain ⟨r, w⟩ := x
      obtain ⟨r', w'⟩ := y
      rw [hi, hj] at h
      simp only [Bool.and_eq_true, List.all_eq_true, Bool.not_eq_true', List.contains_eq_mem, decide_eq_false_iff_not] at h ⊢
      exact ⟨fun id hid => ⟨h.2 id hid, fun hw => (h.1 id hw).2 hid⟩, fun id hid => (h.1 id hid).1⟩

theorem callOpWp_congr {P : Program} {c : Call} {e e' : Nat → V} {s : List Obj} {K : V → List Obj → Prop} (h : ∀ x ∈ c.operands, ev e x = ev e' x) : callOpWp P c e s K = callOpWp P c e' s K := by
  have hargs : ∀ x ∈ c.args.toList, ev e x = ev e' x := fun x hx => h x (by simp [Call.operands]; exact .inr (by simpa using hx))
  have hm : c.args.toList.map (ev e) = c.args.toList.map (ev e') := List.map_congr_left hargs
  unfold callOpWp
  rw [hm]
  cases hc : c.callee with
  | value f =>
    have hf : ev e f = ev e' f := h f (by simp [Call.operands, hc])
    cases f <;> simp only [hf]
  | invoke r m => rfl
  | builtin b =>
    cases b
    case len => rcases hl : c.args.toList with _ | ⟨x, _ | ⟨y, l⟩⟩ <;> rcases ht : c.argTypes.toList with _ | ⟨t, _ | ⟨t', l'⟩⟩ <;> simp_all
    case append => rcases hl : c.args.toList with _ | ⟨x, _ | ⟨y, _ | ⟨z, l⟩⟩⟩ <;> rcases ht : c.argTypes.toList with _ | ⟨t, _ | ⟨t', _ | ⟨t'', l'⟩⟩⟩ <;> simp_all
    case min => rcases hl : c.args.toList with _ | ⟨x, l⟩ <;> rw [hl] at hargs <;> simp only [List.map_congr_left fun y hy => hargs y (List.mem_cons_of_mem _ hy), hargs _ (List.mem_cons_self ..)]
    case max => rcases hl : c.args.toList with _ | ⟨x, l⟩ <;> rw [hl] at hargs <;> simp only [List.map_congr_left fun y hy => hargs y (List.mem_cons_of_mem _ hy), hargs _ (List.mem_cons_self ..)]
    all_goals rfl

theorem opWp_congr {P : Program} {o : Oper} {e e' : Nat → V} {s : List Obj} {K : V → List Obj → Prop} (h : ∀ x ∈ o.op.operands, ev e x = ev e' x) : opWp P o e s K = opWp P o e' s K := by
  obtain ⟨dst, op, ty, pos, after, guard⟩ := o
  have pairs : ∀ ps : Array (Nat × Operand), (∀ x ∈ ps.map (·.2), ev e x = ev e' x) → (ps.toList.map fun p => (p.1, ev e p.2)) = (ps.toList.map fun p => (p.1, ev e' p.2)) := fun ps hp =>
    List.map_congr_left fun p hm => by
      obtain ⟨i, x⟩ := p
      simp only [hp x (Array.mem_map.2 ⟨(i, x), by simpa using hm, rfl⟩)]
  cases op <;> simp only [Op.operands] at h <;> simp only [opWp]
  case build t ps => rw [pairs ps fun x hx => h x (by simpa using hx)]
  case buildSlice t n ps => rw [pairs ps fun x hx => h x (by simpa using hx)]
  case makeFunc fn first captured =>
    rw [List.map_congr_left (l := first.toList) fun x hx => h x (by simp; exact .inl (by simpa using hx)), List.map_congr_left (l := captured.toList) fun x hx => h x (by simp; exact .inr (by simpa using hx))]
  case call c => exact callOpWp_congr h
  case slice t x lo hi mx => cases lo <;> cases hi <;> cases mx <;> simp_all
  all_goals (first | rfl | (simp_all; done))


/-! ### One operation, whatever the order -/

def maskE (full : List Oper) (o : Oper) (e : Env) : Env := fun t => if t ∈ o.looksAt full.toArray then e t else .any

theorem RepE.mask {σ s w N e a} (h : RepE σ s w N e a) (full : List Oper) (o : Oper) : RepE σ s w N (maskE full o e) a :=
  ⟨h.1, h.2.1, fun t => by unfold maskE; split; exact h.2.2 t; exact .any⟩

theorem maskE_congr {full : List Oper} {o : Oper} {e e' : Env} (h : ∀ t ∈ o.looksAt full.toArray, e t = e' t) : maskE full o e = maskE full o e' := by
  funext t
  unfold maskE
  split
  · rename_i ht; exact h t ht
  · rfl

def detS (P : Program) (full : List Oper) (o : Oper) (e : Env) (s : List Obj) (v : V) (s1 : List Obj) : Prop :=
  ∀ (σ : Gh) (w : World) (N : Nat) (a : Act), Inv σ s w → RepE σ s w N (maskE full o e) a → TriOp P o σ s w a fun v' s' => v' = v ∧ s' = s1

def detWp (P : Program) (o : Oper) (e : Env) (s : List Obj) (v : V) (s1 : List Obj) : Prop := opWp P o e s fun v' s' => v' = v ∧ s' = s1

theorem detS_op {P : Program} {full : List Oper} {o : Oper} {e : Env} {s : List Obj} {v : V} {s1 : List Obj} (h : detWp P o e s v s1) : detS P full o e s v s1 := by
  intro σ w N a hI hR
  refine opWp_sound hI hR ?_
  have : opWp P o e s (fun v' s' => v' = v ∧ s' = s1) = opWp P o (maskE full o e) s (fun v' s' => v' = v ∧ s' = s1) := opWp_congr fun x hx => by
    cases x with
    | tmp t =>
      have ht : t ∈ o.looksAt full.toArray := List.mem_append_left _ (List.mem_filterMap.2 ⟨.tmp t, by simpa using hx, rfl⟩)
      simp [ev, maskE, ht]
    | _ => rfl
  rw [← this]; exact h

/-! ### The run in the order of the text -/

/-- What that run has found: for each operation its value (none: its guard said no), and what it does to the objects. -/
structure Ent where
  val : Option V
  tf : List Obj → List Obj

def entVal (x : Ent) : V := x.val.getD .un

/-- An operation that is no bar changes but the objects that it is told to write, each in one way. -/
def TfOk (fs : Foots) (k : Nat) (f : List Obj → List Obj) : Prop :=
  ∀ s, (f s).length = s.length ∧ (∀ id, id ∉ wrOf fs k → (f s)[id]? = s[id]?) ∧ ∀ s', s'.length = s.length → ∀ id, id ∈ wrOf fs k → s'[id]? = s[id]? → (f s)[id]? = (f s')[id]?

def EntOk (P : Program) (full : List Oper) (bars : List Nat) (fs : Foots) (i : Nat) (o : Oper) (x : Ent) (e : Env) (s : List Obj) : Prop :=
  (bars.contains i = false → TfOk fs i x.tf) ∧
  match x.val with
  | none => (∀ s, x.tf s = s) ∧ ∃ g want d, o.guard = some (g, want) ∧ gslot full g = some d ∧ (e d = .d (.sc (.bool (!want))) ∨ e d = .un)
  | some v => (∀ g want, o.guard = some (g, want) → ∃ d, gslot full g = some d ∧ e d = .d (.sc (.bool want))) ∧
      ∀ s', s'.length = s.length → (bars.contains i = true → s' = s) → (∀ id, rdP fs i id → s'[id]? = s[id]?) → detS P full o e s' v (x.tf s')

def Trace (P : Program) (N : Nat) (full : List Oper) (bars : List Nat) (fs : Foots) : Nat → List Oper → List Ent → Env → List Obj → Env → List Obj → Prop
  | _, [], [], e, s, e', s' => e' = e ∧ s' = s
  | i, o :: rest, x :: tr, e, s, e', s' => dstOk N o.dst ∧ EntOk P full bars fs i o x e s ∧ Trace P N full bars fs (i + 1) rest tr (updO e o.dst (entVal x)) (x.tf s) e' s'
  | _, _, _, _, _, _, _ => False

def envAt : List Oper → List Ent → (Nat → Bool) → Nat → Env → Env
  | o :: l, x :: tr, L, k, e => envAt l tr L (k + 1) (if L k then updO e o.dst (entVal x) else e)
  | _, _, _, _, e => e

theorem updE_self {e : Env} {d : Nat} {v : V} (h : e d = v) : updE e d v = e := by
  funext t
  unfold updE
  split
  · rename_i ht; subst ht; exact h.symm
  · rfl

/-! ### From the run in the order of the text to every order -/

theorem envAt_none : ∀ (l : List Oper) (tr : List Ent) (L : Nat → Bool) (k : Nat) (e : Env), (∀ j, k ≤ j → L j = false) → envAt l tr L k e = e
  | [], _, _, _, _, _ => by simp [envAt]
  | _ :: _, [], _, _, _, _ => by simp [envAt]
  | o :: l, x :: tr, L, k, e, h => by
    simp only [envAt, h k (Nat.le_refl _)]
    exact envAt_none l tr L (k + 1) e fun j hj => h j (by omega)

theorem envAt_lt : ∀ (m : Nat) (l : List Oper) (tr : List Ent) (k : Nat) (e : Env) (o : Oper) (x : Ent), l[m]? = some o → tr[m]? = some x →
    envAt l tr (fun j => decide (j < k + m + 1)) k e = updO (envAt l tr (fun j => decide (j < k + m)) k e) o.dst (entVal x)
  | _, [], _, _, _, _, _, h, _ => by simp at h
  | _, _ :: _, [], _, _, _, _, _, h => by simp at h
  | 0, o' :: l, x' :: tr, k, e, o, x, h1, h2 => by
    simp only [List.getElem?_cons_zero, Option.some.injEq] at h1 h2
    subst h1; subst h2
    simp only [envAt, Nat.add_zero, Nat.lt_irrefl, decide_false, Bool.false_eq_true, if_false, show k < k + 1 by omega, decide_true, if_true]
    rw [envAt_none _ _ _ _ _ (fun j hj => by simp; omega), envAt_none _ _ _ _ _ (fun j hj => by simp; omega)]
  | m + 1, o' :: l, x' :: tr, k, e, o, x, h1, h2 => by
    have h3 : decide (k < k + (m + 1) + 1) = true := by simp; omega
    have h4 : decide (k < k + (m + 1)) = true := by simp
    simp only [envAt, h3, h4, if_true]
    have := envAt_lt m l tr (k + 1) (updO e o'.dst (entVal x')) o x (by simpa using h1) (by simpa using h2)
    rw [show k + (m + 1) + 1 = k + 1 + m + 1 by omega, show k + (m + 1) = k + 1 + m by omega]
    exact this

theorem updO_get (e : Env) (d : Option Nat) (v : V) (t : Nat) : updO e d v t = if d = some t then v else e t := by
  cases d with
  | none => simp [updO]
  | some d =>
    simp only [updO, updE, Option.some.injEq]
    by_cases h : t = d
    · rw [if_pos h, if_pos h.symm]
    · rw [if_neg h, if_neg (Ne.symm h)]

theorem envAt_congr (t : Nat) : ∀ (l : List Oper) (tr : List Ent) (L L' : Nat → Bool) (k : Nat) (e e' : Env), e t = e' t → (∀ m o, l[m]? = some o → o.dst = some t → L (k + m) = L' (k + m)) →
    envAt l tr L k e t = envAt l tr L' k e' t
  | [], _, _, _, _, _, _, he, _ => by simpa [envAt] using he
  | _ :: _, [], _, _, _, _, _, he, _ => by simpa [envAt] using he
  | o :: l, x :: tr, L, L', k, e, e', he, h => by
    simp only [envAt]
    refine envAt_congr t l tr L L' (k + 1) _ _ ?_ fun m o' ho' hd => by have := h (m + 1) o' (by simpa using ho') hd; simpa [Nat.add_assoc, Nat.add_comm 1 m] using this
    by_cases hd : o.dst = some t
    · have := h 0 o rfl hd
      simp only [Nat.add_zero] at this
      rw [this]
      split
      · rw [updO_get, updO_get, if_pos hd, if_pos hd]
      · exact he
    · have h1 : ∀ (b : Bool) (f : Env), (if b = true then updO f o.dst (entVal x) else f) t = f t := fun b f => by cases b <;> simp [updO_get, hd]
      rw [h1, h1]
      exact he


def stAt : List Ent → (Nat → Bool) → Nat → List Obj → List Obj
  | x :: tr, L, k, s => stAt tr L (k + 1) (if L k then x.tf s else s)
  | [], _, _, s => s

theorem stAt_none : ∀ (tr : List Ent) (L : Nat → Bool) (k : Nat) (s : List Obj), (∀ j, k ≤ j → L j = false) → stAt tr L k s = s
  | [], _, _, _, _ => rfl
  | x :: tr, L, k, s, h => by
    simp only [stAt]
    rw [stAt_none tr L (k + 1) _ fun j hj => h j (by omega)]
    simp [h k (Nat.le_refl _)]

theorem stAt_congr : ∀ (tr : List Ent) (L L' : Nat → Bool) (k : Nat) (s : List Obj), (∀ m, m < tr.length → L (k + m) = L' (k + m)) → stAt tr L k s = stAt tr L' k s
  | [], _, _, _, _, _ => rfl
  | x :: tr, L, L', k, s, h => by
    simp only [stAt]
    have h0 : L k = L' k := by have := h 0 (by simp); simpa using this
    rw [h0]
    exact stAt_congr tr L L' (k + 1) _ fun m hm => by
      have := h (m + 1) (by simpa using hm)
      rw [show k + (m + 1) = k + 1 + m by omega] at this
      exact this

theorem stAt_lt : ∀ (m : Nat) (tr : List Ent) (k : Nat) (s : List Obj) (x : Ent), tr[m]? = some x →
    stAt tr (fun j => decide (j < k + m + 1)) k s = x.tf (stAt tr (fun j => decide (j < k + m)) k s)
  | _, [], _, _, _, h => by simp at h
  | 0, x' :: tr, k, s, x, h => by
    simp only [List.getElem?_cons_zero, Option.some.injEq] at h
    subst h
    simp only [stAt, Nat.add_zero, Nat.lt_irrefl, decide_false, Bool.false_eq_true, if_false, show k < k + 1 by omega, decide_true, if_true]
    rw [stAt_none _ _ _ _ (fun j hj => by simp; omega), stAt_none _ _ _ _ (fun j hj => by simp; omega)]
  | m + 1, x' :: tr, k, s, x, h => by
    have h3 : decide (k < k + (m + 1) + 1) = true := by simp; omega
    have h4 : decide (k < k + (m + 1)) = true := by simp
    simp only [stAt, h3, h4, if_true]
    have := stAt_lt m tr (k + 1) (x'.tf s) x (by simpa using h)
    rw [show k + (m + 1) + 1 = k + 1 + m + 1 by omega, show k + (m + 1) = k + 1 + m by omega]
    exact this

/-- Two sets of operations that differ only in what does not touch R leave the same there. -/
theorem stAt_agree {bars : List Nat} {fs : Foots} {R : Nat → Prop} : ∀ (tr : List Ent) (L L' : Nat → Bool) (k : Nat) (s s' : List Obj),
    (∀ m x, tr[m]? = some x → bars.contains (k + m) = false → TfOk fs (k + m) x.tf) →
    (∀ m, m < tr.length → L (k + m) = L' (k + m) ∧ (bars.contains (k + m) = true → L (k + m) = true → s = s' ∧ ∀ m', m' < m → L (k + m') = L' (k + m')) ∨ (bars.contains (k + m) = false ∧ ∀ id, R id → id ∉ wrOf fs (k + m))) →
    s.length = s'.length → (∀ id, R id → s[id]? = s'[id]?) →
    (stAt tr L k s).length = (stAt tr L' k s').length ∧ ∀ id, R id → (stAt tr L k s)[id]? = (stAt tr L' k s')[id]?
  | [], _, _, _, s, s', _, _, hl, h => ⟨hl, h⟩
  | x :: tr, L, L', k, s, s', htf, hd, hl, h => by
    simp only [stAt]
    have htf' : ∀ m y, tr[m]? = some y → bars.contains (k + 1 + m) = false → TfOk fs (k + 1 + m) y.tf := fun m y hy hb => by
      have := htf (m + 1) y (by simpa using hy) (by rw [show k + (m + 1) = k + 1 + m by omega]; exact hb)
      rwa [show k + (m + 1) = k + 1 + m by omega] at this
    have next : ∀ t t' : List Obj, t.length = t'.length → (∀ id, R id → t[id]? = t'[id]?) → (s = s' → L k = L' k → t = t') →
        (stAt tr L (k + 1) t).length = (stAt tr L' (k + 1) t').length ∧ ∀ id, R id → (stAt tr L (k + 1) t)[id]? = (stAt tr L' (k + 1) t')[id]? := by
      intro t t' h1 h2 h3
      refine stAt_agree tr L L' (k + 1) t t' htf' (fun m hm => ?_) h1 h2
      have := hd (m + 1) (by simpa using hm)
      rw [show k + (m + 1) = k + 1 + m by omega] at this
      rcases this with ⟨g1, g2⟩ | g
      · refine .inl ⟨g1, fun hb hLt => ?_⟩
        obtain ⟨g3, g4⟩ := g2 hb hLt
        have g0 := g4 0 (by omega)
        rw [Nat.add_zero] at g0
        exact ⟨h3 g3 g0, fun m' hm' => by
          have := g4 (m' + 1) (by omega)
          rwa [show k + (m' + 1) = k + 1 + m' by omega] at this⟩
      · exact .inr g
    have d0 := hd 0 (by simp)
    rw [Nat.add_zero] at d0
    have tf0 := htf 0 x rfl
    rw [Nat.add_zero] at tf0
    cases hL : L k with
    | false =>
      cases hL' : L' k with
      | false =>
        simp only [Bool.false_eq_true, if_false]
        exact next s s' hl h fun h _ => h
      | true =>
        simp only [Bool.false_eq_true, if_false, if_true]
        rcases d0 with ⟨d0, _⟩ | ⟨d1, d2⟩
        · rw [hL, hL'] at d0; cases d0
        · obtain ⟨f1, f2, _⟩ := tf0 d1 s'
          exact next s (x.tf s') (by rw [f1]; exact hl) (fun id hid => by rw [f2 id (d2 id hid)]; exact h id hid) fun _ h' => by rw [hL, hL'] at h'; cases h'
    | true =>
      cases hL' : L' k with
      | false =>
        simp only [Bool.false_eq_true, if_false, if_true]
        rcases d0 with ⟨d0, _⟩ | ⟨d1, d2⟩
        · rw [hL, hL'] at d0; cases d0
        · obtain ⟨f1, f2, _⟩ := tf0 d1 s
          exact next (x.tf s) s' (by rw [f1]; exact hl) (fun id hid => by rw [f2 id (d2 id hid)]; exact h id hid) fun _ h' => by rw [hL, hL'] at h'; cases h'
      | true =>
        simp only [if_true]
        cases hb : bars.contains k with
        | true =>
          rcases d0 with ⟨_, d0⟩ | ⟨d1, _⟩
          · obtain ⟨rfl, _⟩ := d0 hb hL
            exact next _ _ rfl (fun _ _ => rfl) fun _ _ => rfl
          · rw [hb] at d1; cases d1
        | false =>
          obtain ⟨f1, f2, f3⟩ := tf0 hb s
          obtain ⟨f1', f2', _⟩ := tf0 hb s'
          refine next _ _ (by rw [f1, f1']; exact hl) (fun id hid => ?_) fun h _ => by rw [h]
          by_cases hw : id ∈ wrOf fs k
          · exact f3 s' hl.symm id hw (h id hid).symm
          · rw [f2 id hw, f2' id hw]; exact h id hid

/-- What the trace says of its entry number m. -/
theorem trace_at {P : Program} {N : Nat} {full : List Oper} {bars : List Nat} {fs : Foots} : ∀ (l : List Oper) (tr : List Ent) (i : Nat) (e : Env) (s : List Obj) (e' : Env) (s' : List Obj), Trace P N full bars fs i l tr e s e' s' →
    tr.length = l.length ∧ e' = envAt l tr (fun _ => true) i e ∧ s' = stAt tr (fun _ => true) i s ∧
    ∀ (m : Nat) (o : Oper) (x : Ent), l[m]? = some o → tr[m]? = some x → dstOk N o.dst ∧ EntOk P full bars fs (i + m) o x (envAt l tr (fun j => decide (j < i + m)) i e) (stAt tr (fun j => decide (j < i + m)) i s)
  | [], [], i, e, s, e', s', h => by
    obtain ⟨rfl, rfl⟩ := h
    exact ⟨rfl, by simp [envAt], rfl, fun m o x h => by simp at h⟩
  | [], _ :: _, _, _, _, _, _, h => h.elim
  | _ :: _, [], _, _, _, _, _, h => h.elim
  | o :: l, x :: tr, i, e, s, e', s', h => by
    obtain ⟨hd, hx, ht⟩ := h
    obtain ⟨h0, h1, h2, h3⟩ := trace_at l tr (i + 1) _ _ e' s' ht
    refine ⟨by simp [h0], by simp only [envAt, if_true]; exact h1, by simp only [stAt, if_true]; exact h2, fun m o1 x1 ho hx1 => ?_⟩
    cases m with
    | zero =>
      simp only [List.getElem?_cons_zero, Option.some.injEq] at ho hx1
      subst ho; subst hx1
      have e1 : envAt (o :: l) (x :: tr) (fun j => decide (j < i + 0)) i e = e := envAt_none _ _ _ _ _ fun j hj => by simp; omega
      have e2 : stAt (x :: tr) (fun j => decide (j < i + 0)) i s = s := stAt_none _ _ _ _ fun j hj => by simp; omega
      rw [e1, e2]
      exact ⟨hd, hx⟩
    | succ m =>
      have := h3 m o1 x1 (by simpa using ho) (by simpa using hx1)
      rw [show i + (m + 1) = i + 1 + m by omega]
      have hlt : decide (i < i + 1 + m) = true := by simp; omega
      have e1 : envAt (o :: l) (x :: tr) (fun j => decide (j < i + 1 + m)) i e = envAt l tr (fun j => decide (j < i + 1 + m)) (i + 1) (updO e o.dst (entVal x)) := by
        simp only [envAt, hlt, if_true]
      have e2 : stAt (x :: tr) (fun j => decide (j < i + 1 + m)) i s = stAt tr (fun j => decide (j < i + 1 + m)) (i + 1) (x.tf s) := by
        simp only [stAt, hlt, if_true]
      rw [e1, e2]
      exact this

/-! ### The theorem -/

def lst (listed : Array Bool) (j : Nat) : Bool := listed.getD j false

def unl (listed : Array Bool) : Nat := (listed.toList.filter (!·)).length

theorem unl_set {listed : Array Bool} {i : Nat} (h : listed.getD i true = false) : unl (listed.setIfInBounds i true) < unl listed := by
  have hi : i < listed.size := by
    rcases Nat.lt_or_ge i listed.size with h' | h'
    · exact h'
    · simp [Array.getElem?_eq_none h'] at h
  have hv : listed.toList[i]? = some false := by
    rw [Array.getD_eq_getD_getElem?] at h
    rw [Array.getElem?_toList]
    rw [Array.getElem?_eq_getElem hi] at h ⊢
    simpa using h
  unfold unl
  rw [Array.toList_setIfInBounds]
  generalize listed.toList = l at hv
  clear h hi
  induction l generalizing i with
  | nil => simp at hv
  | cons b l ih =>
    cases i with
    | zero =>
      simp only [List.getElem?_cons_zero, Option.some.injEq] at hv
      subst hv
      simp
    | succ i =>
      have := ih (i := i) (by simpa using hv)
      simp only [List.set_cons_succ, List.filter_cons]
      cases b
      · simp only [Bool.not_false, if_true, List.length_cons]; omega
      · simpa using this

theorem unl_zero {listed : Array Bool} (h : unl listed = 0) {i : Nat} (hi : i < listed.size) : listed.getD i false = true := by
  unfold unl at h
  rw [List.length_eq_zero_iff, List.filter_eq_nil_iff] at h
  have := h listed[i] (by simp)
  simpa [Array.getD, hi] using this


section
variable {P : Program} {N : Nat} {full : List Oper} {bars : List Nat} {fs : Foots} {tr : List Ent} {e0 : Env} {s0 : List Obj}

theorem pair_of_drawOk (hd : drawOk full bars fs = true) {i j : Nat} {oi oj : Oper} (hi : full[i]? = some oi) (hj : full[j]? = some oj) (hij : i < j) : pairOk full (masks full []) bars fs i j oi oj = true := by
  simp only [drawOk, List.all_eq_true] at hd
  have h1 := hd (oi, i) (by rw [List.mem_zipIdx_iff_getElem?]; exact hi)
  simp only [Bool.and_eq_true, List.all_eq_true] at h1
  have h2 := h1.2 (oj, j) (by rw [List.mem_zipIdx_iff_getElem?]; exact hj)
  simpa [hij] using h2

theorem edge_of_drawOk (hd : drawOk full bars fs = true) {i : Nat} {oi : Oper} (hi : full[i]? = some oi) {x : Edge} (hx : x ∈ oi.after) (hb : Region.binds .any x = true) : x.on < i := by
  simp only [drawOk, List.all_eq_true] at hd
  have h1 := hd (oi, i) (by rw [List.mem_zipIdx_iff_getElem?]; exact hi)
  simp only [Bool.and_eq_true, List.all_eq_true] at h1
  have := h1.1.2 x (by simpa using hx)
  simpa [hb] using this

theorem bef_of_closed {L : Nat → Prop} (hL : Closed full L) {i j : Nat} (h : befB (masks full []) i j = true) (hj : L j) : L i :=
  masks_spec hL full [] (by simp) (by simp) j i h hj

/-- How an operation m stands to the next one, i, of a closed set L. -/
theorem stands (hd : drawOk full bars fs = true) {L : Nat → Bool} (hL : Closed full fun j => L j = true) {i : Nat} {oi : Oper} (hi : full[i]? = some oi) (hLi : L i = false)
    (hready : ∀ x ∈ oi.after.toList, Region.binds .any x = true → L x.on = true) {m : Nat} {om : Oper} (hm : full[m]? = some om) (hne : m ≠ i) :
    L m = decide (m < i) ∨ ((om.apart full.toArray oi = true ∧ oi.apart full.toArray om = true) ∧ bars.contains m = false ∧ bars.contains i = false ∧ compat fs m i = true) := by
  have hL' : Closed full fun j => L j = true ∨ j = i := by
    intro j o ho hj x hx hb
    rcases hj with hj | rfl
    · exact .inl (hL j o ho hj x hx hb)
    · rw [hi] at ho; cases ho; exact .inl (hready x hx hb)
  rcases Nat.lt_or_gt_of_ne hne with hlt | hgt
  · have hp := pair_of_drawOk hd hm hi hlt
    simp only [pairOk, Bool.or_eq_true] at hp
    rcases hp with hp | hp
    · rcases bef_of_closed hL' hp (.inr rfl) with h | h
      · exact .inl (by rw [h]; simp [hlt])
      · exact absurd h hne
    · simp only [Bool.and_eq_true, Bool.not_eq_true'] at hp
      obtain ⟨⟨⟨⟨a1, a2⟩, a3⟩, a4⟩, a5⟩ := hp
      exact .inr ⟨⟨a1, a2⟩, a3, a4, a5⟩
  · have hp := pair_of_drawOk hd hi hm hgt
    simp only [pairOk, Bool.or_eq_true] at hp
    rcases hp with hp | hp
    · cases hLm : L m with
      | false => exact .inl (by simp; omega)
      | true => have := bef_of_closed hL hp hLm; rw [hLi] at this; cases this
    · simp only [Bool.and_eq_true, Bool.not_eq_true'] at hp
      obtain ⟨⟨⟨⟨a1, a2⟩, a3⟩, a4⟩, a5⟩ := hp
      exact .inr ⟨⟨a2, a1⟩, a4, a3, compat_comm a5⟩

/-- A bar of a closed set: all before it is in the set too. -/
theorem bar_before (hd : drawOk full bars fs = true) {L : Nat → Bool} (hL : Closed full fun j => L j = true) {k m : Nat} (hk : bars.contains k = true) (hLk : L k = true) (hkf : k < full.length) (hm : m < k) : L m = true := by
  have hp := pair_of_drawOk hd (List.getElem?_eq_getElem (by omega : m < full.length)) (List.getElem?_eq_getElem hkf) hm
  simp only [pairOk, Bool.or_eq_true] at hp
  rcases hp with hp | hp
  · exact bef_of_closed hL hp hLk
  · simp only [Bool.and_eq_true, Bool.not_eq_true'] at hp
    rw [hk] at hp; exact absurd hp.1.2 (by simp)

theorem Closed.add {L : Nat → Bool} (hL : Closed full fun j => L j = true) {i : Nat} {oi : Oper} (hi : full[i]? = some oi) (hready : ∀ x ∈ oi.after.toList, Region.binds .any x = true → L x.on = true) {L' : Nat → Bool}
    (h' : ∀ j, L' j = (L j || decide (j = i))) : Closed full fun j => L' j = true := by
  intro j o ho hj x hx hb
  have hj : L' j = true := hj
  show L' x.on = true
  rw [h', Bool.or_eq_true] at hj ⊢
  rcases hj with hj | hj
  · exact .inl (hL j o ho hj x hx hb)
  · rw [decide_eq_true_eq] at hj; subst hj
    rw [hi] at ho; cases ho
    exact .inl (hready x hx hb)

/-- What a slot holds that the next operation looks at. -/
theorem env_stand (hd : drawOk full bars fs = true) {L : Nat → Bool} (hL : Closed full fun j => L j = true) {i : Nat} {oi : Oper} (hi : full[i]? = some oi) (hLi : L i = false)
    (hready : ∀ x ∈ oi.after.toList, Region.binds .any x = true → L x.on = true) {t : Nat} (ht : t ∈ oi.looksAt full.toArray) : envAt full tr L 0 e0 t = envAt full tr (fun j => decide (j < 0 + i)) 0 e0 t := by
  refine envAt_congr t full tr _ _ 0 _ _ rfl fun m om hm hdst => ?_
  simp only [Nat.zero_add]
  by_cases hne : m = i
  · subst hne; simp [hLi]
  · rcases stands hd hL hi hLi hready hm hne with h | ⟨⟨h, _⟩, _⟩
    · exact h
    · exact absurd ht ((Oper.apart_spec h).1 t hdst)

theorem env_put (hd : drawOk full bars fs = true) {L : Nat → Bool} (hL : Closed full fun j => L j = true) {i : Nat} {oi : Oper} (hi : full[i]? = some oi) (hLi : L i = false)
    (hready : ∀ x ∈ oi.after.toList, Region.binds .any x = true → L x.on = true) {x : Ent} (hx : tr[i]? = some x) {L' : Nat → Bool} (h' : ∀ j, L' j = (L j || decide (j = i))) :
    envAt full tr L' 0 e0 = updO (envAt full tr L 0 e0) oi.dst (entVal x) := by
  funext t
  by_cases hdt : oi.dst = some t
  · rw [updO_get, if_pos hdt]
    have h1 : envAt full tr L' 0 e0 t = envAt full tr (fun j => decide (j < 0 + i + 1)) 0 e0 t := by
      refine envAt_congr t full tr _ _ 0 _ _ rfl fun m om hm hdst => ?_
      simp only [Nat.zero_add]
      rw [h']
      by_cases hne : m = i
      · subst hne; simp
      · rcases stands hd hL hi hLi hready hm hne with h | ⟨⟨h, _⟩, _⟩
        · rw [h]; simp only [hne, decide_false, Bool.or_false]; rw [decide_eq_decide]; omega
        · exact absurd hdt ((Oper.apart_spec h).2.1 t hdst)
    rw [h1, envAt_lt i full tr 0 e0 oi x hi hx, updO_get, if_pos hdt]
  · rw [updO_get, if_neg hdt]
    refine envAt_congr t full tr _ _ 0 _ _ rfl fun m om hm hdst => ?_
    simp only [Nat.zero_add]
    rw [h']
    by_cases hne : m = i
    · subst hne; rw [hi] at hm; cases hm; exact absurd hdst hdt
    · simp [hne]

/-- The objects that the next operation reads; all of them if it is a bar. -/
theorem st_stand (hd : drawOk full bars fs = true) (hl : tr.length = full.length) (htf : ∀ m x, tr[m]? = some x → bars.contains m = false → TfOk fs m x.tf) {L : Nat → Bool} (hL : Closed full fun j => L j = true) {i : Nat} {oi : Oper} (hi : full[i]? = some oi) (hLi : L i = false)
    (hready : ∀ x ∈ oi.after.toList, Region.binds .any x = true → L x.on = true) {R : Nat → Prop} (hR : ∀ m, bars.contains i = false → compat fs m i = true → ∀ id, R id → id ∉ wrOf fs m) :
    (stAt tr L 0 s0).length = (stAt tr (fun j => decide (j < 0 + i)) 0 s0).length ∧ ∀ id, R id → (stAt tr L 0 s0)[id]? = (stAt tr (fun j => decide (j < 0 + i)) 0 s0)[id]? := by
  have hif : i < full.length := (List.getElem?_eq_some_iff.1 hi).1
  refine stAt_agree (bars := bars) (fs := fs) tr _ _ 0 s0 s0 (fun m x hx hb => by rw [Nat.zero_add] at hb ⊢; exact htf m x hx hb) (fun m hm => ?_) rfl fun _ _ => rfl
  simp only [Nat.zero_add]
  have barc : bars.contains m = true → L m = true → m < i → ∀ m', m' < m → L m' = decide (m' < i) := by
    intro hb hLm hmi m' hm'
    rw [bar_before hd hL hb hLm (by omega) hm']; simp; omega
  by_cases hne : m = i
  · subst hne
    exact .inl ⟨by simp [hLi], fun _ h => by rw [hLi] at h; cases h⟩
  · rcases stands hd hL hi hLi hready (List.getElem?_eq_getElem (by omega : m < full.length)) hne with h | ⟨_, h1, h2, h3⟩
    · exact .inl ⟨h, fun hb hLm => ⟨trivial, barc hb hLm (by rw [hLm] at h; simpa using h.symm)⟩⟩
    · exact .inr ⟨h1, hR m h2 h3⟩

theorem st_put (hd : drawOk full bars fs = true) (hl : tr.length = full.length) (htf : ∀ m x, tr[m]? = some x → bars.contains m = false → TfOk fs m x.tf) {L : Nat → Bool} (hL : Closed full fun j => L j = true) {i : Nat} {oi : Oper} (hi : full[i]? = some oi) (hLi : L i = false)
    (hready : ∀ x ∈ oi.after.toList, Region.binds .any x = true → L x.on = true) {x : Ent} (hx : tr[i]? = some x) {L' : Nat → Bool} (h' : ∀ j, L' j = (L j || decide (j = i))) :
    stAt tr L' 0 s0 = x.tf (stAt tr L 0 s0) := by
  have hif : i < full.length := (List.getElem?_eq_some_iff.1 hi).1
  have hlt := stAt_lt i tr 0 s0 x hx
  rw [Nat.zero_add] at hlt
  have barc : ∀ m, m < tr.length → bars.contains m = true → L m = true → m < i → ∀ m', m' < m → L m' = decide (m' < i) := by
    intro m hm hb hLm hmi m' hm'
    rw [bar_before hd hL hb hLm (by omega) hm']; simp; omega
  by_cases hb : bars.contains i = true
  · -- a bar: the set is all that lies before it
    have hall : ∀ m, m < tr.length → L m = decide (m < i) := by
      intro m hm
      by_cases hne : m = i
      · subst hne; simp [hLi]
      · rcases stands hd hL hi hLi hready (List.getElem?_eq_getElem (by omega : m < full.length)) hne with h | ⟨_, _, h2, _⟩
        · exact h
        · rw [hb] at h2; cases h2
    rw [stAt_congr tr L (fun j => decide (j < i)) 0 s0 fun m hm => by rw [Nat.zero_add]; exact hall m hm, ← hlt]
    refine stAt_congr tr _ _ 0 s0 fun m hm => ?_
    rw [Nat.zero_add, h', hall m hm]
    by_cases hne : m = i
    · subst hne; simp
    · simp only [hne, decide_false, Bool.or_false]; rw [decide_eq_decide]; omega
  · have hb : bars.contains i = false := by simpa using hb
    obtain ⟨f1, f2, f3⟩ := htf i x hx hb (stAt tr L 0 s0)
    -- off what i writes: nothing is new
    have offW := stAt_agree (bars := bars) (fs := fs) (R := fun id => id ∉ wrOf fs i) tr L' L 0 s0 s0 (fun m y hy hb => by rw [Nat.zero_add] at hb ⊢; exact htf m y hy hb) (fun m hm => by
        simp only [Nat.zero_add]
        by_cases hne : m = i
        · subst hne; exact .inr ⟨hb, fun id hid => hid⟩
        · have e1 : L' m = L m := by rw [h']; simp [hne]
          refine .inl ⟨e1, fun hbm hLm => ⟨trivial, fun m' hm' => ?_⟩⟩
          rw [e1] at hLm
          have := bar_before hd hL hbm hLm (by omega) hm'
          rw [h', this]; rfl) rfl fun _ _ => rfl
    -- on what i writes: as in the text's order
    have onW := stAt_agree (bars := bars) (fs := fs) (R := fun id => id ∈ wrOf fs i) tr L' (fun j => decide (j < i + 1)) 0 s0 s0 (fun m y hy hb => by rw [Nat.zero_add] at hb ⊢; exact htf m y hy hb) (fun m hm => by
        simp only [Nat.zero_add]
        by_cases hne : m = i
        · subst hne
          refine .inl ⟨by rw [h']; simp, fun hbm _ => by rw [hb] at hbm; cases hbm⟩
        · have e1 : L' m = L m := by rw [h']; simp [hne]
          rcases stands hd hL hi hLi hready (List.getElem?_eq_getElem (by omega : m < full.length)) hne with h | ⟨_, h1, _, h3⟩
          · refine .inl ⟨by rw [e1, h, decide_eq_decide]; omega, fun hbm hLm => ⟨trivial, fun m' hm' => ?_⟩⟩
            rw [e1] at hLm
            have hmi : m < i := by rw [hLm] at h; simpa using h.symm
            rw [h', barc m hm hbm hLm hmi m' hm']
            simp only [show m' ≠ i by omega, decide_false, Bool.or_false]; rw [decide_eq_decide]; omega
          · exact .inr ⟨h1, fun id hid => (compat_spec (compat_comm h3) hid).2⟩) rfl fun _ _ => rfl
    refine List.ext_getElem? fun id => ?_
    by_cases hw : id ∈ wrOf fs i
    · have := st_stand (s0 := s0) hd hl htf hL hi hLi hready (R := fun id => id ∈ wrOf fs i) (fun m _ hc id hid hm => (compat_spec hc hm).2 hid)
      rw [Nat.zero_add] at this
      rw [onW.2 id hw, hlt, f3 _ this.1.symm id hw (this.2 id hw).symm]
    · rw [offW.2 id hw, f2 id hw]

theorem guard_in {σ : Gh} {s : List Obj} {w : World} {e : Env} {a : Act} {o : Oper} {g : Nat} {want : Bool} {d : Nat} (hR : RepE σ s w N e a) (ho : o.guard = some (g, want)) (hg : gslot full g = some d) :
    (e d = .d (.sc (.bool want)) → Region.wanted o (yielded full.toArray a.tmps) = true) ∧ (e d = .d (.sc (.bool (!want))) ∨ e d = .un → Region.wanted o (yielded full.toArray a.tmps) = false) := by
  constructor
  · intro h
    have hw : guardWp (gslot full g) e want (fun _ => True) (fun _ => False) := by
      rw [hg]; simp [guardWp, h]
    obtain ⟨_, _, h | h⟩ := guard_spec hR ho hw
    · exact h.1
    · exact h.2.elim
  · intro h
    have hw : guardWp (gslot full g) e want (fun _ => False) (fun _ => True) := by
      rw [hg]
      rcases h with h | h <;> simp [guardWp, h]
    obtain ⟨_, _, h | h⟩ := guard_spec hR ho hw
    · exact h.2.elim
    · exact h.1

theorem any_sound (hd : drawOk full bars fs = true) {e1 : Env} {s1 : List Obj} (ht : Trace P N full bars fs 0 full tr e0 s0 e1 s1)
    {σ00 : Gh} {s00 : List Obj} {w00 : World} {Q : Exit → Env → List Obj → Prop} (hQ : Q .normal e1 s1) : ∀ (fuel : Nat) (listed : Array Bool) (σ : Gh) (w : World) (a : Act), listed.size = full.length → unl listed ≤ fuel →
    (Closed full fun j => lst listed j = true) → Evolve σ00 s00 w00 σ (stAt tr (lst listed) 0 s0) w → Inv σ (stAt tr (lst listed) 0 s0) w → RepE σ (stAt tr (lst listed) 0 s0) w N (envAt full tr (lst listed) 0 e0) a →
    wpAny P .any full.toArray (QX σ00 s00 w00 N Q) fuel listed a w := by
  intro fuel
  obtain ⟨hl, t1, t2, t3⟩ := trace_at full tr 0 e0 s0 e1 s1 ht
  have htf : ∀ m x, tr[m]? = some x → bars.contains m = false → TfOk fs m x.tf := by
    intro m x hx hb
    have hm : m < full.length := by have := (List.getElem?_eq_some_iff.1 hx).1; omega
    have := (t3 m full[m] x (List.getElem?_eq_getElem hm) hx).2.1
    rw [Nat.zero_add] at this
    exact this hb
  -- when nothing is ready all is listed
  have all_of_ready : ∀ listed : Array Bool, listed.size = full.length → Region.ready .any full.toArray listed = [] → ∀ j, j < full.length → lst listed j = true := by
    intro listed hsz hr j
    induction j using Nat.strongRecOn with
    | _ j ih =>
      intro hj
      cases hlj : lst listed j with
      | true => rfl
      | false =>
        exfalso
        have : j ∈ Region.ready .any full.toArray listed := by
          rw [mem_ready]
          refine ⟨?_, full[j], by simp [hj], fun x hx hb => ?_⟩
          · unfold lst at hlj
            have : j < listed.size := by omega
            simpa [Array.getD, this] using hlj
          · exact ih x.on (edge_of_drawOk hd (List.getElem?_eq_getElem hj) hx hb) (by
              have := edge_of_drawOk hd (List.getElem?_eq_getElem hj) hx hb; omega)
        rw [hr] at this
        cases this
  have fin : ∀ (listed : Array Bool) (σ : Gh) (w : World) (a : Act), (∀ j, j < full.length → lst listed j = true) → Evolve σ00 s00 w00 σ (stAt tr (lst listed) 0 s0) w → Inv σ (stAt tr (lst listed) 0 s0) w →
      RepE σ (stAt tr (lst listed) 0 s0) w N (envAt full tr (lst listed) 0 e0) a → QX σ00 s00 w00 N Q .normal a w := by
    intro listed σ w a hall hE hI hR
    have he : envAt full tr (lst listed) 0 e0 = e1 := by
      rw [t1]
      funext t
      refine envAt_congr t full tr _ _ 0 _ _ rfl fun m om hm _ => ?_
      rw [Nat.zero_add]
      exact hall m (List.getElem?_eq_some_iff.1 hm).1
    have hs : stAt tr (lst listed) 0 s0 = s1 := by
      rw [t2]
      refine stAt_congr tr _ _ 0 _ fun m hm => ?_
      rw [Nat.zero_add]
      exact hall m (by omega)
    rw [he, hs] at hR
    rw [hs] at hE hI
    exact ⟨e1, σ, s1, hE, hI, hR, hQ⟩
  have none_of_all : ∀ listed : Array Bool, (∀ j, j < full.length → lst listed j = true) → Region.ready .any full.toArray listed = [] := by
    intro listed hall
    rw [List.eq_nil_iff_forall_not_mem]
    intro j hj
    rw [mem_ready] at hj
    obtain ⟨h0, o, ho, _⟩ := hj
    have hjl : j < full.length := by simpa using (Array.getElem?_eq_some_iff.1 ho).1
    have := hall j hjl
    unfold lst at this
    rw [Array.getD_eq_getD_getElem?] at this h0
    cases hx : listed[j]? with
    | none => rw [hx] at h0; cases h0
    | some b => rw [hx] at this h0; simp only [Option.getD_some] at this h0; rw [this] at h0; cases h0
  induction fuel with
  | zero =>
    intro listed σ w a hsz hu hL hE hI hR
    have hall : ∀ j, j < full.length → lst listed j = true := fun j hj => unl_zero (by omega) (by omega)
    exact ⟨none_of_all listed hall, fin listed σ w a hall hE hI hR⟩
  | succ fuel ih =>
    intro listed σ w a hsz hu hL hE hI hR
    refine ⟨fun hr => fin listed σ w a (all_of_ready listed hsz hr) hE hI hR, fun i hir => ?_⟩
    rw [mem_ready] at hir
    obtain ⟨h0, o, ho, hedges⟩ := hir
    have hif : i < full.length := by simpa using (Array.getElem?_eq_some_iff.1 ho).1
    have hof : full[i]? = some o := by simpa using ho
    have hLi : lst listed i = false := by
      unfold lst
      have : i < listed.size := by omega
      simp only [Array.getD, this, dif_pos] at h0 ⊢
      exact h0
    have hready : ∀ x ∈ o.after.toList, Region.binds .any x = true → lst listed x.on = true := fun x hx hb => hedges x (by simpa using hx) hb
    have hx : ∃ x, tr[i]? = some x := ⟨tr[i], List.getElem?_eq_getElem (by omega)⟩
    obtain ⟨x, hx⟩ := hx
    have h' : ∀ j, lst (listed.setIfInBounds i true) j = (lst listed j || decide (j = i)) := by
      intro j
      unfold lst
      by_cases hji : j = i
      · subst hji
        have : j < listed.size := by omega
        simp [this]
      · rw [getD_set_ne false (Ne.symm hji)]; simp [hji]
    have hnext := ih (listed.setIfInBounds i true)
    have heP := env_put (tr := tr) (e0 := e0) hd hL hof hLi hready hx h'
    have hsP := st_put (s0 := s0) hd hl htf hL hof hLi hready hx h'
    have hcl := Closed.add hL hof hready h'
    have hul := unl_set h0
    obtain ⟨hdst, _, hat⟩ := t3 i o x hof hx
    unfold wpOp
    rw [ho]
    simp only
    cases hv : x.val with
    | none =>
      rw [hv] at hat
      obtain ⟨hst, g, want, d, hg, hgs, hgd⟩ := hat
      have hdl : d ∈ o.looksAt full.toArray := by
        unfold gslot at hgs
        split at hgs
        · rename_i og hog
          simp [Oper.looksAt, hg, hog, hgs]
        · cases hgs
      rw [← env_stand (tr := tr) (e0 := e0) hd hL hof hLi hready hdl] at hgd
      rw [(guard_in hR hg hgs).2 hgd]
      simp only [Bool.false_eq_true, if_false]
      rw [hst] at hsP
      refine hnext σ w _ (by simpa using hsz) (by omega) hcl (by rw [hsP]; exact hE) (by rw [hsP]; exact hI) ?_
      rw [hsP, heP]
      have : entVal x = .un := by simp [entVal, hv]
      rw [this]
      exact hR.put hdst .un
    | some v =>
      rw [hv] at hat
      obtain ⟨hgs, hdet⟩ := hat
      have hwant : Region.wanted o (yielded full.toArray a.tmps) = true := by
        cases hg : o.guard with
        | none => simp [Region.wanted, hg]
        | some gw =>
          obtain ⟨g, want⟩ := gw
          obtain ⟨d, hgd, hgv⟩ := hgs g want hg
          have hdl : d ∈ o.looksAt full.toArray := by
            unfold gslot at hgd
            split at hgd
            · rename_i og hog
              simp [Oper.looksAt, hg, hog, hgd]
            · cases hgd
          rw [← env_stand (tr := tr) (e0 := e0) hd hL hof hLi hready hdl] at hgv
          exact (guard_in hR hg hgd).1 hgv
      rw [if_pos hwant]
      have hdet' : detS P full o (envAt full tr (lst listed) 0 e0) (stAt tr (lst listed) 0 s0) v (stAt tr (lst (listed.setIfInBounds i true)) 0 s0) := by
        have hm : maskE full o (envAt full tr (lst listed) 0 e0) = maskE full o (envAt full tr (fun j => decide (j < 0 + i)) 0 e0) := maskE_congr fun t ht => env_stand hd hL hof hLi hready ht
        unfold detS
        rw [hm, hsP]
        refine hdet _ ?_ ?_ ?_
        · exact (st_stand (s0 := s0) hd hl htf hL hof hLi hready (R := fun _ => False) (fun _ _ _ _ h => h.elim)).1
        · intro hb
          rw [Nat.zero_add] at hb
          have := st_stand (s0 := s0) hd hl htf hL hof hLi hready (R := fun _ => True) (fun _ h => by rw [hb] at h; cases h)
          exact List.ext_getElem? fun id => this.2 id trivial
        · intro id hid
          rw [Nat.zero_add] at hid
          exact (st_stand (s0 := s0) hd hl htf hL hof hLi hready (R := fun id => rdP fs i id) (fun m _ hc id hid hw => (compat_spec hc hw).1 hid)).2 id hid
      refine .inl (Oper.wp_mono (fun a' w' ⟨u, v', σ', s', ha, hE', hI', hR', hK⟩ => ?_) (Oper.wp_sure (hdet' σ w N a hI (hR.mask full o))))
      obtain ⟨rfl, rfl⟩ := hK
      subst ha
      refine hnext σ' w' _ (by simpa using hsz) (by omega) hcl (hE.trans hE') hI' ?_
      rw [heP]
      have : entVal x = v' := by simp [entVal, hv]
      rw [this]
      exact (hR.evolve hE').put hdst hR'

theorem trace_sound (hm : P.follows .mixedOrders = true) (hd : drawOk full bars fs = true) {e : Env} {s : List Obj} {e1 : Env} {s1 : List Obj} (ht : Trace P N full bars fs 0 full tr e s e1 s1) {K : Env → List Obj → Prop} (hK : K e1 s1) : drawWp P N full e s K := by
  intro σ0 s00 w0 Q hKQ σ w a id hE hI hR
  refine wp_region_any hm ?_
  have hf : ∀ j, lst (Array.replicate full.toArray.size false) j = false := by
    intro j
    unfold lst
    rw [Array.getD_eq_getD_getElem?, Array.getElem?_replicate]
    split <;> rfl
  have hs : stAt tr (lst (Array.replicate full.toArray.size false)) 0 s = s := stAt_none _ _ _ _ fun j _ => hf j
  have he : envAt full tr (lst (Array.replicate full.toArray.size false)) 0 e = e := envAt_none _ _ _ _ _ fun j _ => hf j
  refine any_sound hd ht (hKQ e1 s1 hK) _ _ σ _ a (by simp) ?_ (fun j o _ hj => by have hj : lst _ j = true := hj; rw [hf j] at hj; cases hj) ?_ ?_ ?_
  · unfold unl
    refine Nat.le_trans (List.length_filter_le _ _) (by simp)
  · rw [hs]; exact hE.trans (drew_obj hI).1
  · rw [hs]; exact (drew_obj hI).2
  · rw [hs, he]; exact hR.evolve (drew_obj hI).1
end

end Go.VL
