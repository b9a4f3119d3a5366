/- The V-logic, part 17: a drawn region by one run in the order of the text, told by what is to hold behind it. -/
import Derived.Test.YtafbdphblilenaaVp
namespace Go.VL

/-! ### Calls in a drawn region -/

/-- The function that an operation calls, if it is a call of one, and its arguments. -/
def callK (o : Oper) (e : Env) : Option (Option (FuncId × List V)) :=
  match o.op with
  | .call c => match c.callee with
    | .value (.func f) => some (some (f, c.args.toList.map (ev e)))
    | .value x => match ev e x with
      | .cl (.func g) first caps => some (some (g, first ++ c.args.toList.map (ev e) ++ caps))
      | _ => some none
    | .invoke .. => some none
    | .builtin _ => none
  | _ => none

theorem callK_op {P : Program} {o : Oper} {e : Env} {f : FuncId} {args : List V} (h : callK o e = some (some (f, args))) (s : List Obj) (K : V → List Obj → Prop) : opWp P o e s K = callWp P f args s K := by
  obtain ⟨dst, op, ty, pos, after, guard⟩ := o
  cases op <;> try (simp [callK] at h; done)
  rename_i c
  obtain ⟨callee, cargs, argTypes⟩ := c
  cases callee with
  | value x =>
    cases x with
    | func g => simp only [callK, Option.some.injEq, Prod.mk.injEq] at h; obtain ⟨rfl, rfl⟩ := h; rfl
    | tmp t =>
      simp only [callK] at h
      split at h
      · rename_i g first caps hcl
        simp only [Option.some.injEq, Prod.mk.injEq] at h; obtain ⟨rfl, rfl⟩ := h
        simp only [opWp, callOpWp, hcl]
      · cases h
    | const t =>
      simp only [callK] at h
      split at h
      · rename_i g first caps hcl
        simp only [Option.some.injEq, Prod.mk.injEq] at h; obtain ⟨rfl, rfl⟩ := h
        simp only [opWp, callOpWp, hcl]
      · cases h
    | global t =>
      simp only [callK] at h
      split at h
      · rename_i g first caps hcl
        simp only [Option.some.injEq, Prod.mk.injEq] at h; obtain ⟨rfl, rfl⟩ := h
        simp only [opWp, callOpWp, hcl]
      · cases h
  | invoke r m => simp [callK] at h
  | builtin b => simp [callK] at h

theorem callK_none {o : Oper} {e : Env} (h : callK o e = none) : fnCall o = false := by
  obtain ⟨dst, op, ty, pos, after, guard⟩ := o
  cases op <;> try rfl
  rename_i c
  obtain ⟨callee, cargs, argTypes⟩ := c
  cases callee with
  | value x =>
    cases x with
    | func g => simp [callK] at h
    | tmp t => simp only [callK] at h; split at h <;> cases h
    | const t => simp only [callK] at h; split at h <;> cases h
    | global t => simp only [callK] at h; split at h <;> cases h
  | invoke r m => rfl
  | builtin b => rfl

/-- Whatever the objects are it yields the one value and leaves them. -/
def callC (P : Program) (f : FuncId) (args : List V) (s : List Obj) (K : V → List Obj → Prop) : Prop := ∃ v, (∀ s', callWp P f args s' fun v' s'' => v' = v ∧ s'' = s') ∧ K v s

/-- At just these objects. -/
def callD (P : Program) (f : FuncId) (args : List V) (s : List Obj) (K : V → List Obj → Prop) : Prop := ∃ v s1, (callWp P f args s fun v' s'' => v' = v ∧ s'' = s1) ∧ K v s1

/-- It reads the objects rd and writes the objects wr. -/
def callF (P : Program) (rd wr : List Nat) (f : FuncId) (args : List V) (s : List Obj) (K : V → List Obj → Prop) : Prop :=
  ∃ v os, os.length = wr.length ∧ (∀ s', s'.length = s.length → (∀ id ∈ rd, s'[id]? = s[id]?) → callWp P f args s' fun v' s'' => v' = v ∧ s'' = putObjs s' wr os) ∧ K v (putObjs s wr os)

/-! ### Operations that write one object, whatever the others are -/

/-- The operation puts o' in the place of object h. -/
def opAt (P : Program) (o : Oper) (e : Env) (s : List Obj) (h : Nat) (K : V → List Obj → Prop) : Prop :=
  match s[h]? with
  | none => False
  | some ob => match o.op with
    | .alloc t => ob.live = true ∧ match tyI P t with
      | some i => K (.rf h (ob.g + 1) 0 0) (s.set h ⟨ob.g + 1, true, i.sz, [i.zero.map cv]⟩)
      | none => False
    | .box _ x => ob.live = true ∧ match cellsV (ev e x) with
      | some cs => K (.rf h (ob.g + 1) 0 0) (s.set h ⟨ob.g + 1, true, cs.length, [cs]⟩)
      | none => False
    | .store t a x => match ev e a with
      | .rf id _ _ _ => id = h ∧ storeWp P t s (ev e a) (ev e x) fun s' => K .un s'
      | _ => False
    | _ => False

theorem new_at {σ : Gh} {s : List Obj} {w : World} (hI : Inv σ s w) {id : Nat} {o : Obj} (ho : s[id]? = some o) (hlive : o.live = true) {sz : Nat} {els : List (List V)} {arr : Array Value} (E : TypeId) (hl : ∀ e ∈ els, e.length = sz) (hs : els.length * sz ≤ arr.size)
    (hc : ∀ (i j : Nat) (x : V), (els[i]?.bind (·[j]?)) = some x → ∃ u, arr[i * sz + j]? = some u ∧ u.oneCell' = true ∧ RepV σ s w x u) :
    Evolve σ s w (updG σ id (some (w.heap.size, 0))) (s.set id ⟨o.g + 1, true, sz, els⟩) (w.alloc (.cells arr E)) ∧
    Inv (updG σ id (some (w.heap.size, 0))) (s.set id ⟨o.g + 1, true, sz, els⟩) (w.alloc (.cells arr E)) := by
  refine set_obj (p := some (w.heap.size, 0)) hI ho hlive rfl rfl rfl (by simp) (fun b hb _ => Go.RowKit.Below.heap_alloc w _ b hb)
    (fun b base arr' E' hs' hh => ⟨arr', by rw [Go.RowKit.Below.heap_alloc w _ b (lt_heap hh)]; exact hh, rfl⟩) (Nat.le_succ _) (fun h => by simp at h) (fun b base h => by cases h; exact .inr (Nat.le_refl _))
    (fun hE => .inr ⟨w.heap.size, 0, arr, E, rfl, heap_alloc_new w _, hl, by simpa using hs, fun i j x hx => ?_⟩)
  obtain ⟨u, h1, h2, h3⟩ := hc i j x hx
  exact ⟨u, by simpa using h1, h2, h3.evolve hE⟩

theorem at_rf {σ : Gh} {s : List Obj} {w : World} {id : Nat} (hid : id < s.length) {o : Obj} {b base : Nat} : RepV (updG σ id (some (b, base))) (s.set id o) w (.rf id o.g 0 0) (.pointer (some ⟨b, base, none⟩)) :=
  .rf o (by simp [hid]) (Nat.le_refl _) rfl (fun _ => ⟨b, base, updG_same _ _ _, by simp⟩)

theorem opAt_det {P : Program} {full : List Oper} {o : Oper} {e : Env} {s : List Obj} {h : Nat} {K : V → List Obj → Prop} (ha : opAt P o e s h K) :
    ∃ v o', K v (s.set h o') ∧ ∀ s', s'.length = s.length → s'[h]? = s[h]? → detS P full o e s' v (s'.set h o') := by
  obtain ⟨dst, op, ty, pos, after, guard⟩ := o
  unfold opAt at ha
  cases hob : s[h]? with
  | none => rw [hob] at ha; exact ha.elim
  | some ob =>
    rw [hob] at ha
    simp only at ha
    cases op <;> simp only at ha <;> try exact ha.elim
    case alloc t =>
      obtain ⟨hl, ha⟩ := ha
      split at ha
      case h_2 => exact ha.elim
      rename_i i hi
      refine ⟨_, _, ha, fun s' hlen hs' σ w N a hI hR => ?_⟩
      obtain ⟨z, hz, hr, hs, hzl⟩ := zero_reps hi σ s' w
      have := new_at hI hs' hl (els := [i.zero.map cv]) (sz := i.sz) (arr := z.cells) t (by simp; rw [← hzl]; simpa using hs) (by simp [hs]) (one_cells hr i.sz)
      refine tri_value (u := .pointer (some ⟨w.heap.size, 0, none⟩)) (w' := w.alloc (.cells z.cells t)) ?_ this.1 this.2 (at_rf (o := ⟨ob.g + 1, true, i.sz, [i.zero.map cv]⟩) (List.getElem?_eq_some_iff.1 hs').1) ⟨rfl, rfl⟩
      simp [execOp, Instr.alloc, hz, newVar, newRow]
    case box t x =>
      obtain ⟨hl, ha⟩ := ha
      split at ha
      case h_2 => exact ha.elim
      rename_i cs hcs
      refine ⟨_, _, ha, fun s' hlen hs' σ w N a hI hR => ?_⟩
      have hm : ev (maskE full ⟨dst, .box t x, ty, pos, after, guard⟩ e) x = ev e x := by
        cases x with
        | tmp t' => simp [ev, maskE, Oper.looksAt, Op.operands]
        | _ => rfl
      have hx := hR.ev x
      rw [hm] at hx
      have hr : RepsL σ s' w cs (a.eval x).cells := cellsV_spec hx hcs
      have := new_at hI hs' hl (els := [cs]) (sz := cs.length) (arr := (a.eval x).cells) t (by simp) (by simp [hr.1]) (one_cells hr _)
      refine tri_value (u := .pointer (some ⟨w.heap.size, 0, none⟩)) (w' := w.alloc (.cells (a.eval x).cells t)) ?_ this.1 this.2 (at_rf (o := ⟨ob.g + 1, true, cs.length, [cs]⟩) (List.getElem?_eq_some_iff.1 hs').1) ⟨rfl, rfl⟩
      simp [execOp, Instr.box, newVar, newRow]
    case store t x y =>
      split at ha
      case h_2 => exact ha.elim
      rename_i id g k off hx
      obtain ⟨rfl, ha⟩ := ha
      unfold storeWp at ha
      cases ht : tyI P t with
      | none => rw [ht] at ha; exact ha.elim
      | some i =>
        rw [ht] at ha
        simp only [hx, hob] at ha
        obtain ⟨h1, h2, ha⟩ := ha
        split at ha
        · exact ha.elim
        · rename_i cs hcs
          split at ha
          · exact ha.elim
          · rename_i ns hns
            obtain ⟨h3, h4, ha⟩ := ha
            refine ⟨_, _, ha, fun s' hlen hs' => detS_op ?_⟩
            unfold detWp opWp
            simp only [storeWp, ht, hx, hs', hob, hcs, hns]
            exact ⟨h1, h2, h3, h4, trivial, trivial⟩

/-! ### The run -/

def sameS (s : List Obj) (K : V → List Obj → Prop) (v : V) (s1 : List Obj) : Prop := s1 = s ∧ K v s

theorem sameS_app {s : List Obj} {K : V → List Obj → Prop} {v : V} {s1 : List Obj} : sameS s K v s1 = (s1 = s ∧ K v s) := (rfl)

/-- Reads, of objects that no operation of the region is told to write. -/
def roFree (o : Oper) (e : Env) (ws : List Nat) : Bool := roOp o && (opReads e o).all fun id => !ws.contains id

def roIn (o : Oper) (e : Env) (rd : List Nat) : Bool := roOp o && (opReads e o).all fun id => rd.contains id

def stepC (P : Program) (bars : List Nat) (fs : Foots) (i : Nat) (o : Oper) (e : Env) (s : List Obj) (K : V → List Obj → Prop) : Prop :=
  match bars.contains i with
  | true => match callK o e with
    | some (some (f, args)) => callD P f args s K
    | some none => False
    | none => opWp P o e s K
  | false => match footOf fs i with
    | none => match callK o e with
      | some (some (f, args)) => callC P f args s K
      | some none => False
      | none => roFree o e (allW fs) = true ∧ opWp P o e s (sameS s K)
    | some (rd, wr) => match callK o e with
      | some (some (f, args)) => callF P rd wr f args s K
      | some none => False
      | none => match wr with
        | [] => roIn o e rd = true ∧ opWp P o e s (sameS s K)
        | [h] => rd.contains h = true ∧ opAt P o e s h K
        | _ => False

theorem putObjs_same : ∀ (ρ : List Nat) (os : List Obj) (s s' : List Obj) (id : Nat), id ∈ ρ → os.length = ρ.length → s.length = s'.length → (putObjs s ρ os)[id]? = (putObjs s' ρ os)[id]?
  | [], _, _, _, _, h, _, _ => by cases h
  | r :: ρ, [], _, _, _, _, h, _ => by simp at h
  | r :: ρ, o :: os, s, s', id, h, hl, hs => by
    simp only [putObjs]
    by_cases hm : id ∈ ρ
    · exact putObjs_same ρ os _ _ id hm (by simpa using hl) (by simpa using hs)
    · have : id = r := by rcases List.mem_cons.1 h with h | h; exact h; exact absurd h hm
      subst this
      rw [putObjs_other ρ os _ _ hm, putObjs_other ρ os _ _ hm]
      by_cases hlt : id < s.length
      · rw [List.getElem?_set_self hlt, List.getElem?_set_self (by omega)]
      · rw [List.getElem?_eq_none (by simp; omega), List.getElem?_eq_none (by simp; omega)]

theorem stepC_ent {P : Program} {full : List Oper} {bars : List Nat} {fs : Foots} {i : Nat} {o : Oper} {e : Env} {s : List Obj} {K : V → List Obj → Prop} (hg : ∀ g want, o.guard = some (g, want) → ∃ d, gslot full g = some d ∧ e d = .d (.sc (.bool want))) (h : stepC P bars fs i o e s K) :
    ∃ v tf, EntOk P full bars fs i o ⟨some v, tf⟩ e s ∧ K v (tf s) := by
  unfold stepC at h
  cases hb : bars.contains i with
  | true =>
    rw [hb] at h
    simp only at h
    have bar : ∀ v s1, detWp P o e s v s1 → K v s1 → ∃ v tf, EntOk P full bars fs i o ⟨some v, tf⟩ e s ∧ K v (tf s) := by
      intro v s1 h1 h2
      refine ⟨v, fun _ => s1, ⟨(fun h => by rw [hb] at h; cases h), hg, fun s' _ h' _ => ?_⟩, h2⟩
      rw [h' hb]
      exact detS_op h1
    split at h
    · rename_i f args hc
      obtain ⟨v, s1, h1, h2⟩ := h
      exact bar v s1 (by unfold detWp; rw [callK_op hc]; exact h1) h2
    · exact h.elim
    · rename_i hc
      obtain ⟨v, s1, h1, h2⟩ := op_det (callK_none hc) _ h
      exact bar v s1 h1 h2
  | false =>
    rw [hb] at h
    simp only at h
    cases hf : footOf fs i with
    | none =>
      rw [hf] at h
      simp only at h
      have idTf : TfOk fs i fun s => s := fun s => ⟨rfl, fun _ _ => rfl, fun s' hl id hw _ => by simp [wrOf, hf] at hw⟩
      split at h
      · rename_i f args hc
        obtain ⟨v, h1, h2⟩ := h
        exact ⟨v, fun s => s, ⟨fun _ => idTf, hg, fun s' _ _ _ => detS_op (by unfold detWp; rw [callK_op hc]; exact h1 s')⟩, h2⟩
      · exact h.elim
      · rename_i hc
        obtain ⟨hr, h⟩ := h
        obtain ⟨v, s1, h1, h2, h3⟩ := op_det (callK_none hc) _ h
        subst h2
        simp only [roFree, Bool.and_eq_true, List.all_eq_true, Bool.not_eq_true', List.contains_eq_mem, decide_eq_false_iff_not] at hr
        refine ⟨v, fun s => s, ⟨fun _ => idTf, hg, fun s' _ _ hag => detS_op (ro_agree hr.1 (fun id hid => hag id ?_) h1)⟩, h3⟩
        unfold rdP
        rw [hf]
        exact hr.2 id hid
    | some rw' =>
      obtain ⟨rd, wr⟩ := rw'
      rw [hf] at h
      simp only at h
      split at h
      · rename_i f args hc
        obtain ⟨v, os, hl, h1, h2⟩ := h
        refine ⟨v, fun s => putObjs s wr os, ⟨fun _ s => ⟨putObjs_length _ _ _, fun id hid => putObjs_other _ _ _ _ (by simpa [wrOf, hf] using hid), fun s' hls id hid _ => putObjs_same _ _ _ _ _ (by simpa [wrOf, hf] using hid) hl hls.symm⟩, hg,
          fun s' hls _ hag => detS_op (by unfold detWp; rw [callK_op hc]; exact h1 s' hls fun id hid => hag id (by unfold rdP; rw [hf]; exact hid))⟩, h2⟩
      · exact h.elim
      · rename_i hc
        split at h
        · obtain ⟨hr, h⟩ := h
          obtain ⟨v, s1, h1, h2, h3⟩ := op_det (callK_none hc) _ h
          subst h2
          simp only [roIn, Bool.and_eq_true, List.all_eq_true, List.contains_eq_mem, decide_eq_true_eq] at hr
          refine ⟨v, fun s => s, ⟨fun _ s => ⟨rfl, fun _ _ => rfl, fun s' hl id hw _ => by simp [wrOf, hf] at hw⟩, hg, fun s' _ _ hag => detS_op (ro_agree hr.1 (fun id hid => hag id ?_) h1)⟩, h3⟩
          unfold rdP
          rw [hf]
          exact hr.2 id hid
        · rename_i hh
          obtain ⟨hr, h⟩ := h
          obtain ⟨v, o', h1, h2⟩ := opAt_det (full := full) h
          refine ⟨v, fun s => s.set hh o', ⟨fun _ s => ⟨by simp, fun id hid => ?_, fun s' hls id hid _ => ?_⟩, hg, fun s' hls _ hag => h2 s' hls (hag hh ?_)⟩, h1⟩
          · have : id ≠ hh := by simpa [wrOf, hf] using hid
            exact List.getElem?_set_ne (Ne.symm this)
          · have : id = hh := by simpa [wrOf, hf] using hid
            subst this
            by_cases hlt : id < s.length
            · rw [List.getElem?_set_self hlt, List.getElem?_set_self (by omega)]
            · rw [List.getElem?_eq_none (by simp; omega), List.getElem?_eq_none (by simp; omega)]
          · unfold rdP
            rw [hf]
            simpa using hr
        · exact h.elim

def lexC (P : Program) (N : Nat) (full : List Oper) (bars : List Nat) (fs : Foots) : Nat → List Oper → Env → List Obj → (Env → List Obj → Prop) → Prop
  | _, [], e, s, K => K e s
  | i, o :: rest, e, s, K => dstOk N o.dst ∧ match o.guard with
    | none => match o.op with
      | .pick c a b => bars.contains i = false ∧ footOf fs i = none ∧ boolWp (ev e c) (lexC P N full bars fs (i + 1) rest (updO e o.dst (ev e a)) s K) (lexC P N full bars fs (i + 1) rest (updO e o.dst (ev e b)) s K)
      | _ => stepC P bars fs i o e s fun v s1 => lexC P N full bars fs (i + 1) rest (updO e o.dst v) s1 K
    | some (g, want) => guardWp (gslot full g) e want (fun e => stepC P bars fs i o e s fun v s1 => lexC P N full bars fs (i + 1) rest (updO e o.dst v) s1 K)
        (fun e => lexC P N full bars fs (i + 1) rest (updO e o.dst .un) s K)

theorem lexC_trace {P : Program} {N : Nat} {full : List Oper} {bars : List Nat} {fs : Foots} : ∀ (l : List Oper) (i : Nat) (e : Env) (s : List Obj) (K : Env → List Obj → Prop), lexC P N full bars fs i l e s K →
    ∃ tr e' s', Trace P N full bars fs i l tr e s e' s' ∧ K e' s'
  | [], i, e, s, K, h => ⟨[], e, s, ⟨rfl, rfl⟩, h⟩
  | o :: rest, i, e, s, K, h => by
    obtain ⟨hd, h⟩ := h
    have run : (∀ g want, o.guard = some (g, want) → ∃ d, gslot full g = some d ∧ e d = .d (.sc (.bool want))) → (stepC P bars fs i o e s fun v s1 => lexC P N full bars fs (i + 1) rest (updO e o.dst v) s1 K) →
        ∃ tr e' s', Trace P N full bars fs i (o :: rest) tr e s e' s' ∧ K e' s' := by
      intro hg h
      obtain ⟨v, tf, h1, h2⟩ := stepC_ent hg h
      obtain ⟨tr, e', s', k1, k2⟩ := lexC_trace rest (i + 1) _ _ K h2
      exact ⟨⟨some v, tf⟩ :: tr, e', s', ⟨hd, h1, k1⟩, k2⟩
    split at h
    · rename_i hg
      have hgn : ∀ g want, o.guard = some (g, want) → ∃ d, gslot full g = some d ∧ e d = .d (.sc (.bool want)) := fun g want h => by rw [hg] at h; cases h
      split at h
      · rename_i c a b hop
        obtain ⟨hnb, hnf, h⟩ := h
        unfold boolWp at h
        split at h
        · rename_i bb hbb
          have go : ∀ (v : V), (∀ s', detWp P o e s' v s') → lexC P N full bars fs (i + 1) rest (updO e o.dst v) s K → ∃ tr e' s', Trace P N full bars fs i (o :: rest) tr e s e' s' ∧ K e' s' := by
            intro v hv h2
            obtain ⟨tr, e', s', k1, k2⟩ := lexC_trace rest (i + 1) _ _ K h2
            exact ⟨⟨some v, fun s => s⟩ :: tr, e', s', ⟨hd, ⟨fun _ s => ⟨rfl, fun _ _ => rfl, fun s' hl id hw _ => by simp [wrOf, hnf] at hw⟩, hgn, fun s' _ _ _ => detS_op (hv s')⟩, k1⟩, k2⟩
          cases bb with
          | true => exact go _ (fun s' => by simp [detWp, opWp, hop, boolWp, hbb]) (h.1 rfl)
          | false => exact go _ (fun s' => by simp [detWp, opWp, hop, boolWp, hbb]) (h.2 rfl)
        · exact h.elim
      · exact run hgn h
    · rename_i g want hg
      unfold guardWp at h
      split at h
      case h_1 => exact h.elim
      rename_i d hd'
      have skip : (e d = .d (.sc (.bool (!want))) ∨ e d = .un) → lexC P N full bars fs (i + 1) rest (updO e o.dst .un) s K →
          ∃ tr e' s', Trace P N full bars fs i (o :: rest) tr e s e' s' ∧ K e' s' := by
        intro hv h2
        obtain ⟨tr, e', s', k1, k2⟩ := lexC_trace rest (i + 1) _ _ K h2
        exact ⟨⟨none, fun s => s⟩ :: tr, e', s', ⟨hd, ⟨fun _ s => ⟨rfl, fun _ _ => rfl, fun s' hl id _ h => h.symm⟩, fun _ => rfl, g, want, d, hg, hd', hv⟩, k1⟩, k2⟩
      split at h
      · rename_i b hb
        by_cases hbw : b = want
        · subst hbw
          have := h.1 rfl
          rw [updE_self hb] at this
          exact run (fun g' want' hg' => by rw [hg] at hg'; cases hg'; exact ⟨d, hd', hb⟩) this
        · have hbn : b = !want := by cases b <;> cases want <;> simp_all
          subst hbn
          have := h.2 rfl
          rw [updE_self hb] at this
          exact skip (.inl hb) this
      · rename_i hb
        exact skip (.inr hb) h
      · exact h.elim

/-! The equations that simp takes. -/

def contC (P : Program) (N : Nat) (full : List Oper) (bars : List Nat) (fs : Foots) (i : Nat) (rest : List Oper) (e : Env) (d : Option Nat) (K : Env → List Obj → Prop) (v : V) (s : List Obj) : Prop := lexC P N full bars fs i rest (updO e d v) s K

theorem contC_app {P : Program} {N : Nat} {full : List Oper} {bars : List Nat} {fs : Foots} {i : Nat} {rest : List Oper} {e : Env} {d : Option Nat} {K : Env → List Obj → Prop} {v : V} {s : List Obj} : contC P N full bars fs i rest e d K v s = lexC P N full bars fs i rest (updO e d v) s K := (rfl)
theorem lexC_nil {P : Program} {N : Nat} {full : List Oper} {bars : List Nat} {fs : Foots} {i : Nat} {e : Env} {s : List Obj} {K : Env → List Obj → Prop} : lexC P N full bars fs i [] e s K = K e s := (rfl)
theorem lexC_cons {P : Program} {N : Nat} {full : List Oper} {bars : List Nat} {fs : Foots} {i : Nat} {o : Oper} {rest : List Oper} {e : Env} {s : List Obj} {K : Env → List Obj → Prop} : lexC P N full bars fs i (o :: rest) e s K = (dstOk N o.dst ∧ match o.guard with
    | none => match o.op with
      | .pick c a b => bars.contains i = false ∧ footOf fs i = none ∧ boolWp (ev e c) (lexC P N full bars fs (i + 1) rest (updO e o.dst (ev e a)) s K) (lexC P N full bars fs (i + 1) rest (updO e o.dst (ev e b)) s K)
      | _ => stepC P bars fs i o e s (contC P N full bars fs (i + 1) rest e o.dst K)
    | some (g, want) => guardWp (gslot full g) e want (fun e => stepC P bars fs i o e s (contC P N full bars fs (i + 1) rest e o.dst K))
        (fun e => lexC P N full bars fs (i + 1) rest (updO e o.dst .un) s K)) := (rfl)

/-- The rule for a drawn region. -/
theorem draw_c {P : Program} {N : Nat} {full : List Oper} (hm : P.follows .mixedOrders = true) (bars : List Nat) (fs : Foots) {e : Env} {s : List Obj} {K : Env → List Obj → Prop} (hd : drawOk full bars fs = true) (h : lexC P N full bars fs 0 full e s K) : drawWp P N full e s K := by
  obtain ⟨tr, e', s', h1, h2⟩ := lexC_trace _ _ _ _ _ h
  exact trace_sound hm hd h1 h2

theorem callC_pure {P : Program} {f : FuncId} {args : List V} {r : V} {s : List Obj} {K : V → List Obj → Prop} (h : PureOK P f args r) (ha : refsV.go 0 args = true) (hr : refsV 0 r = true) (hk : K r s) : callC P f args s K :=
  ⟨r, fun s' => call_pure h ha hr ⟨rfl, rfl⟩, hk⟩

theorem callD_of {P : Program} {f : FuncId} {args : List V} {s : List Obj} {K : V → List Obj → Prop} {r : V} {s1 : List Obj} (h : callWp P f args s fun v' s'' => v' = r ∧ s'' = s1) (hk : K r s1) : callD P f args s K := ⟨r, s1, h, hk⟩

/-! ### Before a drawn region: objects told as data, places kept for new ones -/

def Cln0 (e : Env) (s : List Obj) (e' : Env) (s' : List Obj) : Prop :=
  ∀ (σ0 : Gh) (s0 : List Obj) (w0 : World) (σ : Gh) (w : World) (N : Nat) (a : Act), Evolve σ0 s0 w0 σ s w → Inv σ s w → RepE σ s w N e a → ∃ σ', Evolve σ0 s0 w0 σ' s' w ∧ Inv σ' s' w ∧ RepE σ' s' w N e' a

theorem draw_first {P : Program} {N : Nat} {full : List Oper} {e e' : Env} {s s' : List Obj} {K : Env → List Obj → Prop} (h : Cln0 e s e' s') (k : drawWp P N full e' s' K) : drawWp P N full e s K := by
  intro σ0 s0 w0 Q hKQ σ w a id hE hI hR
  obtain ⟨σ', h1, h2, h3⟩ := h σ0 s0 w0 σ w N a hE hI hR
  exact k σ0 s0 w0 Q hKQ σ' w a id h1 h2 h3

def hole : Obj := ⟨0, true, 0, []⟩

theorem Cln0.reserve {e : Env} {s : List Obj} : Cln0 e s e (s ++ [hole]) := by
  intro σ0 s0 w0 σ w N a hE hI hR
  have := push_obj (p := none) (o' := hole) (w' := w) hI rfl rfl rfl (Nat.le_refl _) (fun _ _ => rfl) (fun _ _ h' => by cases h') (fun _ => .inl ⟨rfl, rfl⟩)
  exact ⟨_, hE.trans this.1, this.2, hR.evolve this.1⟩

theorem Cln0.trans {e e' e'' : Env} {s s' s'' : List Obj} (h : Cln0 e s e' s') (k : Cln0 e' s' e'' s'') : Cln0 e s e'' s'' := by
  intro σ0 s0 w0 σ w N a hE hI hR
  obtain ⟨σ', h1, h2, h3⟩ := h σ0 s0 w0 σ w N a hE hI hR
  exact k σ0 s0 w0 σ' w N a h1 h2 h3

/-- The slots told as data. -/
def freezeE (s : List Obj) (slots : List Nat) (e : Env) : Env := fun t => if slots.contains t then cleanV s.length s (e t) else e t

theorem Cln0.freeze {e : Env} {s : List Obj} (ids slots : List Nat) : Cln0 e s (freezeE (killO s ids) slots e) (killO s ids) := by
  intro σ0 s0 w0 σ w N a hE hI hR
  obtain ⟨h1, h2⟩ := killO_ok ids s hI
  refine ⟨σ, hE.trans h1, h2, hR.1, hR.2.1, fun t => ?_⟩
  unfold freezeE
  split
  · have := cleanV_spec h2 (lim := (killO s ids).length) ((hR.2.2 t).evolve h1)
    rwa [List.take_length] at this
  · exact (hR.2.2 t).evolve h1

/-- A call of a function that works on the first object. -/
theorem call_one {P : Program} {f : FuncId} {args : List V} {o o' : Obj} {r : V} {rest : List Obj} {K : V → List Obj → Prop} (h : callWp P f args [o] fun v s' => v = r ∧ s' = [o']) (ha : args.map (renV [0]) = args) (hra : refsV.go 1 args = true)
    (hoo : objOk 1 o = true) (ho : renO [0] o = o) (ho' : renO [0] o' = o') (hr : renV [0] r = r) (hk : K r (o' :: rest)) : callWp P f args (o :: rest) K := by
  refine call_frame h [0] rfl (by simp) (fun k ob hk => ?_) ha.symm hra (by simp [hoo]) fun v s' hv => ?_
  · cases k with
    | zero => simp at hk; subst hk; simp [ho]
    | succ k => simp at hk
  · obtain ⟨rfl, rfl⟩ := hv
    refine ⟨rfl, ?_⟩
    rw [hr]
    simpa [putObjs, ho'] using hk

/-- The same in a drawn region: object 0 is read and written. -/
theorem callF_one {P : Program} {f : FuncId} {args : List V} {o o' : Obj} {r : V} {rest : List Obj} {K : V → List Obj → Prop} (h : callWp P f args [o] fun v s' => v = r ∧ s' = [o']) (ha : args.map (renV [0]) = args) (hra : refsV.go 1 args = true)
    (hoo : objOk 1 o = true) (ho : renO [0] o = o) (ho' : renO [0] o' = o') (hr : renV [0] r = r) (hk : K r (o' :: rest)) : callF P [0] [0] f args (o :: rest) K := by
  refine ⟨r, [o'], rfl, fun s' hl hs => ?_, by simpa [putObjs] using hk⟩
  cases s' with
  | nil => simp at hl
  | cons o1 rest1 =>
    have : o1 = o := by have := hs 0 (by simp); simpa using this
    subst this
    exact call_one h ha hra hoo ho ho' hr ⟨rfl, by simp [putObjs]⟩

end Go.VL
