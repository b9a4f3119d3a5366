/- The V-logic, part 11: lists of operations, code, functions. -/
import Derived.Test.YtafbdphblilenaaVj
namespace Go.VL

abbrev Env := Nat → V

def updE (e : Env) (d : Nat) (v : V) : Env := fun t => if t = d then v else e t

def updO (e : Env) (d : Option Nat) (v : V) : Env :=
  match d with
  | none => e
  | some d => updE e d v

def dstOk (N : Nat) (d : Option Nat) : Prop :=
  match d with
  | none => True
  | some d => d < N

theorem RepE.put {σ s w N e a} (h : RepE σ s w N e a) {d : Option Nat} (hd : dstOk N d) {v : V} {u : Value} (hv : RepV σ s w v u) : RepE σ s w N (updO e d v) (a.put d u) := by
  cases d with
  | none => exact h
  | some d =>
    have hd' : d < N := hd
    refine ⟨h.1, by simp [Act.put, h.2.1], fun t => ?_⟩
    simp only [Act.put, updO, updE]
    by_cases ht : t = d
    · subst ht
      rw [if_pos rfl, Array.getD_eq_getD_getElem?, Array.getElem?_setIfInBounds_self_of_lt (by rw [h.2.1]; exact hd')]
      exact hv
    · rw [if_neg ht, Array.getD_eq_getD_getElem?, Array.getElem?_setIfInBounds_ne (Ne.symm ht), ← Array.getD_eq_getD_getElem?]
      exact h.2.2 t

/-- The frame without the slots that are used no more (M: the kept ones, a bit each). -/
def trimE (M : Nat) (e : Env) : Env := fun t => if (M >>> t) % 2 = 1 then e t else .any

theorem trimE_app {M : Nat} {e : Env} {t : Nat} : trimE M e t = if (M >>> t) % 2 = 1 then e t else .any := (rfl)

theorem trimE_upd {M : Nat} {e : Env} {d : Nat} {v : V} : trimE M (updE e d v) = if (M >>> d) % 2 = 1 then updE (trimE M e) d v else trimE M e := by
  split <;> rename_i h <;> funext t <;> simp only [trimE, updE]
  · by_cases ht : t = d
    · subst ht; simp [h]
    · simp [ht]
  · by_cases ht : t = d
    · subst ht; simp [h]
    · simp [ht]

theorem trimE_trim {M : Nat} {e : Env} : trimE M (trimE M e) = trimE M e := by
  funext t; simp only [trimE]; split <;> rfl

theorem RepE.trim {σ s w N M e a} (h : RepE σ s w N e a) : RepE σ s w N (trimE M e) a := by
  refine ⟨h.1, h.2.1, fun t => ?_⟩
  unfold trimE
  split
  · exact h.2.2 t
  · exact .any

theorem RepE.evolve {σ s w σ' s' w' N e a} (h : RepE σ s w N e a) (hE : Evolve σ s w σ' s' w') : RepE σ' s' w' N e a :=
  ⟨h.1, h.2.1, fun t => (h.2.2 t).evolve hE⟩

/-- The slot that a guard looks at. -/
def gslot (full : List Oper) (g : Nat) : Option Nat :=
  match full[g]? with
  | some o => o.dst
  | none => none

/-- In the frame of each way the slot holds what the guard has found there. -/
def guardWp (d : Option Nat) (e : Env) (want : Bool) (A B : Env → Prop) : Prop :=
  match d with
  | none => False
  | some d => match e d with
    | .d (.sc (.bool b)) => (b = want → A (updE e d (.d (.sc (.bool want))))) ∧ (b = (!want) → B (updE e d (.d (.sc (.bool (!want))))))
    | .un => B e
    | _ => False

theorem RepE.same {σ s w N e a} (h : RepE σ s w N e a) {d : Nat} {v : V} (hv : e d = v) : RepE σ s w N (updE e d v) a := by
  refine ⟨h.1, h.2.1, fun t => ?_⟩
  unfold updE
  split
  · rename_i ht; subst ht; rw [← hv]; exact h.2.2 _
  · exact h.2.2 t

theorem guard_spec {full : List Oper} {σ s w N e a} (h : RepE σ s w N e a) {g : Nat} {want : Bool} {o : Oper} (ho : o.guard = some (g, want)) {A B : Env → Prop} (hg : guardWp (gslot full g) e want A B) :
    ∃ e', RepE σ s w N e' a ∧ ((Region.wanted o (yielded full.toArray a.tmps) = true ∧ A e') ∨ (Region.wanted o (yielded full.toArray a.tmps) = false ∧ B e')) := by
  unfold guardWp at hg
  unfold Region.wanted
  rw [ho]
  simp only
  split at hg
  case h_1 => exact hg.elim
  rename_i d hd
  unfold gslot at hd
  split at hd
  case h_2 => cases hd
  rename_i og hog
  have hr := h.2.2 d
  split at hg
  · rename_i b hb
    rw [hb] at hr
    generalize hcv : a.tmps.getD d undef = c at hr
    cases hr with | d hr => ?_
    cases hr with | sc _ _ => ?_
    have hsome : a.tmps[d]? = some (.bool b) := by
      rw [Array.getD_eq_getD_getElem?] at hcv
      cases hx : a.tmps[d]? with
      | none => rw [hx] at hcv; cases hcv
      | some y => rw [hx] at hcv; simp only [Option.getD_some] at hcv; rw [hcv]
    have hy : yielded full.toArray a.tmps g = some b := by simp [yielded, hog, hd, hsome]
    rw [hy]
    by_cases hbw : b = want
    · subst hbw
      exact ⟨_, h.same hb, .inl ⟨by simp, hg.1 rfl⟩⟩
    · have hbn : b = !want := by cases b <;> cases want <;> simp_all
      subst hbn
      exact ⟨_, h.same hb, .inr ⟨by simp, hg.2 rfl⟩⟩
  · rename_i hb
    rw [hb] at hr
    generalize hcv : a.tmps.getD d undef = c at hr
    cases hr
    have hy : yielded full.toArray a.tmps g = none := by
      rw [Array.getD_eq_getD_getElem?] at hcv
      cases hx : a.tmps[d]? with
      | none => simp [yielded, hog, hd, hx]
      | some y => rw [hx] at hcv; simp only [Option.getD_some] at hcv; simp [yielded, hog, hd, hx, hcv, undef]
    exact ⟨e, h, .inr ⟨by rw [hy]; rfl, hg⟩⟩
  · exact hg.elim

def opsWp (P : Program) (N : Nat) (full : List Oper) : List Oper → Env → List Obj → (Env → List Obj → Prop) → Prop
  | [], e, s, K => K e s
  | o :: rest, e, s, K => dstOk N o.dst ∧ match o.guard with
    | none => opWp P o e s fun v s' => opsWp P N full rest (updO e o.dst v) s' K
    | some (g, want) => guardWp (gslot full g) e want (fun e => opWp P o e s fun v s' => opsWp P N full rest (updO e o.dst v) s' K) (fun e => opsWp P N full rest (updO e o.dst .un) s K)

theorem Oper.wp_sure {P : Program} {o : Oper} {a : Act} {w : World} {K : Act → World → Prop} {Q : Exit → Act → World → Prop} (h : o.wp P a w K (fun _ _ _ => False)) : o.wp P a w K Q := by
  unfold Go.Oper.wp at *
  generalize (execOp a.eval o).run P w = r at *
  cases r with
  | ok n w' =>
    cases n <;> simp only [Oper.upon] at h ⊢ <;>
      first
        | exact h
        | exact Calls.mono h (fun e w'' he => by
            cases e with
            | returned v => exact he
            | panicked ch => exact he.elim
            | outgrown => obtain ⟨_, _, h'⟩ := he; exact h'.elim)
  | halt x w' => cases x <;> simp only [Oper.upon] at h ⊢

/-- What holds at the end, told of the frame and the world. -/
def QX (σ0 : Gh) (s0 : List Obj) (w0 : World) (N : Nat) (Q : Exit → Env → List Obj → Prop) : Exit → Act → World → Prop :=
  fun ex a w => ∃ e σ s, Evolve σ0 s0 w0 σ s w ∧ Inv σ s w ∧ RepE σ s w N e a ∧ Q ex e s

theorem opsWp_sound {P : Program} {N : Nat} {full : List Oper} {σ0 : Gh} {s0 : List Obj} {w0 : World} {Q : Exit → Env → List Obj → Prop} : ∀ (l : List Oper) (e : Env) (s : List Obj) (σ : Gh) (w : World) (a : Act),
    Evolve σ0 s0 w0 σ s w → Inv σ s w → RepE σ s w N e a → opsWp P N full l e s (fun e s => Q .normal e s) → wpList P full.toArray (QX σ0 s0 w0 N Q) l a w
  | [], e, s, σ, w, a, hE, hI, hR, h => ⟨e, σ, s, hE, hI, hR, h⟩
  | o :: rest, e, s, σ, w, a, hE, hI, hR, h => by
    obtain ⟨hd, h⟩ := h
    have run : ∀ e, RepE σ s w N e a → (opWp P o e s fun v s' => opsWp P N full rest (updO e o.dst v) s' fun e s => Q .normal e s) → o.wp P a w (wpList P full.toArray (QX σ0 s0 w0 N Q) rest) (QX σ0 s0 w0 N Q) := by
      intro e hR h
      refine Oper.wp_mono (fun a' w' ⟨u, v, σ', s', ha, hE', hI', hR', hK⟩ => ?_) (Oper.wp_sure (opWp_sound hI hR h))
      subst ha
      exact opsWp_sound rest _ s' σ' w' _ (hE.trans hE') hI' ((hR.evolve hE').put hd hR') hK
    unfold wpList
    split at h
    · rename_i hg
      rw [if_pos (by simp [Region.wanted, hg])]
      exact .inl (run e hR h)
    · rename_i g want hg
      obtain ⟨e', hR', ⟨h1, h2⟩ | ⟨h1, h2⟩⟩ := guard_spec hR hg h
      · rw [if_pos h1]; exact .inl (run e' hR' h2)
      · rw [if_neg (by rw [h1]; decide)]
        exact opsWp_sound rest _ s σ w _ hE hI (hR'.put hd .un) h2

/-! ### Code -/

def Qseq (B : Env → List Obj → Prop) (Q : Exit → Env → List Obj → Prop) : Exit → Env → List Obj → Prop
  | .normal, e, s => B e s
  | x, e, s => Q x e s

def Qblk (id : Nat) (Q : Exit → Env → List Obj → Prop) : Exit → Env → List Obj → Prop
  | .exit i, e, s => if i = id then Q .normal e s else Q (.exit i) e s
  | x, e, s => Q x e s

def condWp (x : V) (A B : Prop) : Prop :=
  match x with
  | .d .ub => A ∧ B
  | _ => boolWp x A B

/-- A region whose order is drawn: see part 12. -/
def drawWp (P : Program) (N : Nat) (ops : List Oper) (e : Env) (s : List Obj) (K : Env → List Obj → Prop) : Prop :=
  ∀ (σ0 : Gh) (s0 : List Obj) (w0 : World) (Q : Exit → Env → List Obj → Prop), (∀ e s, K e s → Q .normal e s) → ∀ (σ : Gh) (w : World) (a : Act) (id : Nat),
    Evolve σ0 s0 w0 σ s w → Inv σ s w → RepE σ s w N e a → (Code.region id ops.toArray true).wp P (QX σ0 s0 w0 N Q) a w

/-- The frame and the objects may be told anew (some forgotten, some told as data), as long as the first L objects stay. -/
def Cln (L : Nat) (e : Env) (s : List Obj) (e' : Env) (s' : List Obj) : Prop :=
  ∀ (σ0 : Gh) (s0 : List Obj) (w0 : World) (σ : Gh) (w : World) (N : Nat) (a : Act), s0.length ≤ L → Evolve σ0 s0 w0 σ s w → Inv σ s w → RepE σ s w N e a → Evolve σ0 s0 w0 σ s' w ∧ Inv σ s' w ∧ RepE σ s' w N e' a

theorem Cln.refl {L : Nat} {e : Env} {s : List Obj} : Cln L e s e s := fun _ _ _ _ _ _ _ _ hE hI hR => ⟨hE, hI, hR⟩

theorem Cln.trans {L : Nat} {e e' e'' : Env} {s s' s'' : List Obj} (h : Cln L e s e' s') (k : Cln L e' s' e'' s'') : Cln L e s e'' s'' := fun σ0 s0 w0 σ w N a hL hE hI hR =>
  let ⟨h1, h2, h3⟩ := h σ0 s0 w0 σ w N a hL hE hI hR
  k σ0 s0 w0 σ w N a hL h1 h2 h3

def loopWp (L : Nat) (body : (Exit → Env → List Obj → Prop) → Env → List Obj → Prop) (Q : Exit → Env → List Obj → Prop) (e : Env) (s : List Obj) : Prop :=
  ∃ I : Nat → Env → List Obj → Prop, (∃ n e1 s1, Cln L e s e1 s1 ∧ I n e1 s1) ∧ ∀ n e s, I n e s → body (Qseq (fun e s => ∃ m e1 s1, m < n ∧ Cln L e s e1 s1 ∧ I m e1 s1) Q) e s

def codeWp (P : Program) (N L M : Nat) : Code → (Exit → Env → List Obj → Prop) → Env → List Obj → Prop
  | .skip, Q, e, s => Q .normal e s
  | .region _ ops draw, Q, e, s => match draw with
    | false => opsWp P N ops.toList ops.toList e s fun e s => Q .normal e s
    | true => drawWp P N ops.toList e s fun e s => Q .normal e s
  | .seq a b, Q, e, s => codeWp P N L M a (Qseq (codeWp P N L M b Q) Q) e s
  | .cond c a b, Q, e, s => condWp (ev e c) (codeWp P N L M a Q (trimE M e) s) (codeWp P N L M b Q (trimE M e) s)
  | .block id c, Q, e, s => codeWp P N L M c (Qblk id Q) e s
  | .loop c, Q, e, s => loopWp L (codeWp P N L M c) Q e s
  | .exit id, Q, e, s => Q (.exit id) e s
  | .ret, Q, e, s => Q .ret e s
  | _, _, _, _ => False

def Qn (Q : Exit → Env → List Obj → Prop) (e : Env) (s : List Obj) : Prop := Q .normal e s

/-! The equations that simp takes: what is to hold behind an operation stays folded until it is asked of one value. -/

def cont (P : Program) (N : Nat) (full rest : List Oper) (e : Env) (d : Option Nat) (K : Env → List Obj → Prop) (v : V) (s : List Obj) : Prop := opsWp P N full rest (updO e d v) s K

theorem cont_app {P : Program} {N : Nat} {full rest : List Oper} {e : Env} {d : Option Nat} {K : Env → List Obj → Prop} {v : V} {s : List Obj} : cont P N full rest e d K v s = opsWp P N full rest (updO e d v) s K := (rfl)
theorem Qn_app {Q : Exit → Env → List Obj → Prop} {e : Env} {s : List Obj} : Qn Q e s = Q .normal e s := (rfl)
theorem opsWp_nil {P : Program} {N : Nat} {full : List Oper} {e : Env} {s : List Obj} {K : Env → List Obj → Prop} : opsWp P N full [] e s K = K e s := (rfl)
theorem opsWp_cons {P : Program} {N : Nat} {full rest : List Oper} {o : Oper} {e : Env} {s : List Obj} {K : Env → List Obj → Prop} : opsWp P N full (o :: rest) e s K = (dstOk N o.dst ∧ match o.guard with
    | none => opWp P o e s (cont P N full rest e o.dst K)
    | some (g, want) => guardWp (gslot full g) e want (fun e => opWp P o e s (cont P N full rest e o.dst K)) (fun e => opsWp P N full rest (updO e o.dst .un) s K)) := (rfl)
theorem codeWp_skip {P : Program} {N L M : Nat} {Q : Exit → Env → List Obj → Prop} {e : Env} {s : List Obj} : codeWp P N L M .skip Q e s = Q .normal e s := (rfl)
theorem codeWp_region {P : Program} {N L M : Nat} {Q : Exit → Env → List Obj → Prop} {e : Env} {s : List Obj} {id : Nat} {ops : Array Oper} : codeWp P N L M (.region id ops false) Q e s = opsWp P N ops.toList ops.toList e s (Qn Q) := (rfl)
theorem codeWp_draw {P : Program} {N L M : Nat} {Q : Exit → Env → List Obj → Prop} {e : Env} {s : List Obj} {id : Nat} {ops : Array Oper} : codeWp P N L M (.region id ops true) Q e s = drawWp P N ops.toList e s (Qn Q) := (rfl)
theorem codeWp_seq {P : Program} {N L M : Nat} {Q : Exit → Env → List Obj → Prop} {e : Env} {s : List Obj} {a b : Code} : codeWp P N L M (.seq a b) Q e s = codeWp P N L M a (Qseq (codeWp P N L M b Q) Q) e s := (rfl)
theorem codeWp_cond {P : Program} {N L M : Nat} {Q : Exit → Env → List Obj → Prop} {e : Env} {s : List Obj} {c : Operand} {a b : Code} : codeWp P N L M (.cond c a b) Q e s = condWp (ev e c) (codeWp P N L M a Q (trimE M e) s) (codeWp P N L M b Q (trimE M e) s) := (rfl)
theorem codeWp_block {P : Program} {N L M : Nat} {Q : Exit → Env → List Obj → Prop} {e : Env} {s : List Obj} {id : Nat} {c : Code} : codeWp P N L M (.block id c) Q e s = codeWp P N L M c (Qblk id Q) e s := (rfl)
theorem codeWp_exit {P : Program} {N L M : Nat} {Q : Exit → Env → List Obj → Prop} {e : Env} {s : List Obj} {id : Nat} : codeWp P N L M (.exit id) Q e s = Q (.exit id) e s := (rfl)
theorem codeWp_ret {P : Program} {N L M : Nat} {Q : Exit → Env → List Obj → Prop} {e : Env} {s : List Obj} : codeWp P N L M .ret Q e s = Q .ret e s := (rfl)
theorem Qseq_normal {B : Env → List Obj → Prop} {Q : Exit → Env → List Obj → Prop} {e : Env} {s : List Obj} : Qseq B Q .normal e s = B e s := (rfl)
theorem Qseq_ret {B : Env → List Obj → Prop} {Q : Exit → Env → List Obj → Prop} {e : Env} {s : List Obj} : Qseq B Q .ret e s = Q .ret e s := (rfl)
theorem Qseq_exit {B : Env → List Obj → Prop} {Q : Exit → Env → List Obj → Prop} {e : Env} {s : List Obj} {i : Nat} : Qseq B Q (.exit i) e s = Q (.exit i) e s := (rfl)
theorem Qblk_normal {Q : Exit → Env → List Obj → Prop} {e : Env} {s : List Obj} {i : Nat} : Qblk i Q .normal e s = Q .normal e s := (rfl)
theorem Qblk_ret {Q : Exit → Env → List Obj → Prop} {e : Env} {s : List Obj} {i : Nat} : Qblk i Q .ret e s = Q .ret e s := (rfl)
theorem Qblk_exit {Q : Exit → Env → List Obj → Prop} {e : Env} {s : List Obj} {i j : Nat} : Qblk i Q (.exit j) e s = if j = i then Q .normal e s else Q (.exit j) e s := (rfl)

/-- Behind a loop's body. -/
def Lnext (L : Nat) (I : Nat → Env → List Obj → Prop) (n : Nat) (e : Env) (s : List Obj) : Prop := ∃ m e1 s1, m < n ∧ Cln L e s e1 s1 ∧ I m e1 s1

theorem loop_rule {P : Program} {N L M : Nat} {c : Code} {Q : Exit → Env → List Obj → Prop} {e : Env} {s : List Obj} (I : Nat → Env → List Obj → Prop) (h0 : ∃ n e1 s1, Cln L e s e1 s1 ∧ I n e1 s1) (h : ∀ n e s, I n e s → codeWp P N L M c (Qseq (Lnext L I n) Q) e s) :
    codeWp P N L M (.loop c) Q e s := ⟨I, h0, h⟩

theorem codeWp_sound {P : Program} {N L M : Nat} {σ0 : Gh} {s0 : List Obj} {w0 : World} (hL : s0.length ≤ L) : ∀ (c : Code) (Q : Exit → Env → List Obj → Prop) (e : Env) (s : List Obj) (σ : Gh) (w : World) (a : Act),
    Evolve σ0 s0 w0 σ s w → Inv σ s w → RepE σ s w N e a → codeWp P N L M c Q e s → c.wp P (QX σ0 s0 w0 N Q) a w
  | .skip, Q, e, s, σ, w, a, hE, hI, hR, h => wp_skip ⟨e, σ, s, hE, hI, hR, h⟩
  | .region id ops false, Q, e, s, σ, w, a, hE, hI, hR, h => by
    refine wp_region_list ?_
    have := opsWp_sound (Q := Q) ops.toList e s σ w a hE hI hR h
    simpa using this
  | .region id ops true, Q, e, s, σ, w, a, hE, hI, hR, h => by
    have := h σ0 s0 w0 Q (fun _ _ h => h) σ w a id hE hI hR
    simpa using this
  | .seq x y, Q, e, s, σ, w, a, hE, hI, hR, h => by
    refine wp_seq (wp_mono (codeWp_sound hL x _ e s σ w a hE hI hR h) fun ex a' w' ⟨e', σ', s', hE', hI', hR', hq⟩ => ?_)
    cases ex with
    | normal => exact codeWp_sound hL y Q e' s' σ' w' a' hE' hI' hR' hq
    | _ => exact ⟨e', σ', s', hE', hI', hR', hq⟩
  | .cond c x y, Q, e, s, σ, w, a, hE, hI, hR, h => by
    simp only [codeWp, condWp] at h
    split at h
    · rename_i hb
      have hc := hR.ev c
      rw [hb] at hc
      generalize hcv : a.eval c = cv' at hc
      cases hc with | d hc => ?_
      cases hc with | ub b => ?_
      refine wp_cond_split hcv (fun ht => ?_) (fun hf => ?_)
      · exact codeWp_sound hL x Q _ s σ w a hE hI hR.trim h.1
      · exact codeWp_sound hL y Q _ s σ w a hE hI hR.trim h.2
    unfold boolWp at h
    split at h
    · rename_i b hb
      have hc := hR.ev c
      rw [hb] at hc
      generalize hcv : a.eval c = cv' at hc
      cases hc with | d hc => ?_
      cases hc with | sc _ _ => ?_
      refine wp_cond_split hcv (fun ht => ?_) (fun hf => ?_)
      · exact codeWp_sound hL x Q _ s σ w a hE hI hR.trim (h.1 ht)
      · exact codeWp_sound hL y Q _ s σ w a hE hI hR.trim (h.2 hf)
    · exact h.elim
  | .block id c, Q, e, s, σ, w, a, hE, hI, hR, h => by
    refine wp_block (wp_mono (codeWp_sound hL c _ e s σ w a hE hI hR h) fun ex a' w' ⟨e', σ', s', hE', hI', hR', hq⟩ => ?_)
    cases ex with
    | exit i =>
      simp only [Exit.inBlock]
      simp only [Qblk] at hq
      split
      · rename_i hi; rw [if_pos hi] at hq; exact ⟨e', σ', s', hE', hI', hR', hq⟩
      · rename_i hi; rw [if_neg hi] at hq; exact ⟨e', σ', s', hE', hI', hR', hq⟩
    | _ => exact ⟨e', σ', s', hE', hI', hR', hq⟩
  | .loop c, Q, e, s, σ, w, a, hE, hI, hR, h => by
    obtain ⟨I, ⟨n0, e0, s0', hc0, h0⟩, hstep⟩ := h
    obtain ⟨hE, hI, hR⟩ := hc0 σ0 s0 w0 σ w N a hL hE hI hR
    let J : Nat → Act → World → Prop := fun n a w => ∃ e σ s, Evolve σ0 s0 w0 σ s w ∧ Inv σ s w ∧ RepE σ s w N e a ∧ I n e s
    have least : ∀ a w, (∃ n, J n a w) → ∃ n, J n a w ∧ ∀ m, J m a w → n ≤ m := by
      intro a w ⟨n, hn⟩
      induction n using Nat.strongRecOn with
      | _ n ih =>
        by_cases hm : ∃ m, m < n ∧ J m a w
        · obtain ⟨m, hm1, hm2⟩ := hm; exact ih m hm1 hm2
        · exact ⟨n, hn, fun m hj => by
            rcases Nat.lt_or_ge m n with h' | h'
            · exact absurd ⟨m, h', hj⟩ hm
            · exact h'⟩
    classical
    let μ : Act → World → Nat := fun a w => if h : ∃ n, J n a w then Classical.choose (least a w h) else 0
    have hμ : ∀ a w, (∃ n, J n a w) → J (μ a w) a w ∧ ∀ m, J m a w → μ a w ≤ m := by
      intro a w h
      simp only [μ, dif_pos h]
      exact Classical.choose_spec (least a w h)
    refine wp_loop (fun a w => ∃ n, J n a w) μ ⟨n0, e0, σ, s0', hE, hI, hR, h0⟩ fun a w hJ => ?_
    obtain ⟨⟨e1, σ1, s1, hE1, hI1, hR1, hi⟩, _⟩ := hμ a w hJ
    refine wp_mono (codeWp_sound hL c _ e1 s1 σ1 w a hE1 hI1 hR1 (hstep _ _ _ hi)) fun ex a' w' ⟨e', σ', s', hE', hI', hR', hq⟩ => ?_
    cases ex with
    | normal =>
      obtain ⟨m, e2, s2, hm, hc, hi'⟩ := hq
      obtain ⟨hE', hI', hR'⟩ := hc σ0 s0 w0 σ' w' N a' hL hE' hI' hR'
      have hj : J m a' w' := ⟨e2, σ', s2, hE', hI', hR', hi'⟩
      exact ⟨⟨m, hj⟩, Nat.lt_of_le_of_lt ((hμ a' w' ⟨m, hj⟩).2 m hj) hm⟩
    | _ => exact ⟨e', σ', s', hE', hI', hR', hq⟩
  | .exit id, Q, e, s, σ, w, a, hE, hI, hR, h => wp_exit ⟨e, σ, s, hE, hI, hR, h⟩
  | .ret, Q, e, s, σ, w, a, hE, hI, hR, h => wp_ret ⟨e, σ, s, hE, hI, hR, h⟩
  | .rangeFunc .., _, _, _, _, _, _, _, _, _, h => h.elim
  | .scope _, _, _, _, _, _, _, _, _, _, h => h.elim
  | .label _, _, _, _, _, _, _, _, _, _, h => h.elim
  | .goto _, _, _, _, _, _, _, _, _, _, h => h.elim
  | .refuse _, _, _, _, _, _, _, _, _, _, h => h.elim

end Go.VL
