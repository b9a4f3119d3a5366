/- The V-logic, part 9: arithmetic, one operation, a list of operations. -/
import Derived.Test.YtafbdphblilenaaVh
namespace Go.VL

def bitV (op : BinOp) (k : IntKind) (a b : Int) : Int :=
  k.wrap (match op with
    | .and => (BitVec.ofInt k.bits a &&& BitVec.ofInt k.bits b).toNat
    | .or => (BitVec.ofInt k.bits a ||| BitVec.ofInt k.bits b).toNat
    | .xor => (BitVec.ofInt k.bits a ^^^ BitVec.ofInt k.bits b).toNat
    | _ => (BitVec.ofInt k.bits a &&& ~~~BitVec.ofInt k.bits b).toNat)

def vint (k : IntKind) (n : Int) : V := .d (.sc (.int k n))
def vbool (b : Bool) : V := .d (.sc (.bool b))

def intWp (op : BinOp) (k : IntKind) (a b : Int) (K : V → Prop) : Prop :=
  match op with
  | .add => K (.d (.sc (.int k (k.wrap (a + b)))))
  | .sub => K (.d (.sc (.int k (k.wrap (a - b)))))
  | .mul => K (.d (.sc (.int k (k.wrap (a * b)))))
  | .quo => b ≠ 0 ∧ K (.d (.sc (.int k (k.wrap (a.tdiv b)))))
  | .rem => b ≠ 0 ∧ K (.d (.sc (.int k (a.tmod b))))
  | .and => K (.d (.sc (.int k (bitV .and k a b))))
  | .or => K (.d (.sc (.int k (bitV .or k a b))))
  | .xor => K (.d (.sc (.int k (bitV .xor k a b))))
  | .eql => K (.d (.sc (.bool (decide (a = b)))))
  | .neq => K (.d (.sc (.bool (!decide (a = b)))))
  | .lss => K (.d (.sc (.bool (decide (a < b)))))
  | .leq => K (.d (.sc (.bool (decide (a ≤ b)))))
  | .gtr => K (.d (.sc (.bool (decide (b < a)))))
  | .geq => K (.d (.sc (.bool (decide (b ≤ a)))))
  | _ => False

def isPtr (s : List Obj) : V → Prop
  | .d (.el _) => True
  | .rf id g _ _ => atG s id g fun _ => True
  | _ => False

def binWp (P : Program) (op : BinOp) (t : TypeId) (s : List Obj) (x y : V) (K : V → Prop) : Prop :=
  match x, y with
  | .d (.sc (.int k a)), .d (.sc (.int k' b)) => k = k' ∧ intWp op k a b K
  | .d (.sc (.bool a)), .d (.sc (.bool b)) => P.underlying t = some .bool ∧ match op with
    | .eql => K (.d (.sc (.bool (a == b))))
    | .neq => K (.d (.sc (.bool (!(a == b)))))
    | _ => False
  | .d (.sc (.pointer none)), .d (.sc (.pointer none)) => (∃ e, P.underlying t = some (.pointer e)) ∧ match op with
    | .eql => K (.d (.sc (.bool true)))
    | .neq => K (.d (.sc (.bool false)))
    | _ => False
  | p, .d (.sc (.pointer none)) => isPtr s p ∧ (∃ e, P.underlying t = some (.pointer e)) ∧ match op with
    | .eql => K (.d (.sc (.bool false)))
    | .neq => K (.d (.sc (.bool true)))
    | _ => False
  | _, _ => False

/-- The literal nil of slices. -/
def nilC : Operand → Bool
  | .const (.slice none 0 0) => true
  | _ => false

/-- A slice compared with nil: that of no elements may be nil or not. -/
def nilSlWp (P : Program) (op : BinOp) (t : TypeId) (x : V) (K : V → Prop) : Prop :=
  (∃ e, P.underlying t = some (.slice e)) ∧ op = .eql ∧ match x with
    | .d (.sl []) => K (.d .ub)
    | .d (.sl (_ :: _)) => K (.d (.sc (.bool false)))
    | .fu [] => K (.d .ub)
    | .fu (_ :: _) => K (.d (.sc (.bool false)))
    | _ => False

theorem isPtr_spec {σ : Gh} {s : List Obj} {w : World} {p : V} {u : Value} (hp : RepV σ s w p u) (h : isPtr s p) : ∃ a, u = .pointer (some a) := by
  unfold isPtr at h
  split at h
  · cases hp with | d hx => ?_
    cases hx with | el _ a _ _ _ _ => exact ⟨a, rfl⟩
  · obtain ⟨o, ho, hg, _⟩ := atG_spec h
    obtain ⟨b, base, _, rfl⟩ := rf_ptr hp ho hg
    exact ⟨_, rfl⟩
  · exact h.elim

theorem run_equal_bool {P : Program} {t : TypeId} (hu : P.underlying t = some .bool) (a b : Bool) (w : World) : (Op.equal t (.bool a) (.bool b)).run P w = .ok (a == b) w := by
  have h : ∀ d : Nat, (Op.equalIn (d + 1) t (.bool a) (.bool b)).run P w = .ok (a == b) w := fun d => by simp [Op.equalIn, run_underlying hu]
  exact h 9999

theorem run_equal_nil {P : Program} {t e : TypeId} (hu : P.underlying t = some (.pointer e)) (w : World) : (Op.equal t (.pointer none) (.pointer none)).run P w = .ok true w := by
  have h : ∀ d : Nat, (Op.equalIn (d + 1) t (.pointer none) (.pointer none)).run P w = .ok true w := fun d => by simp [Op.equalIn, run_underlying hu]
  exact h 9999

theorem run_equal_ptr {P : Program} {t e : TypeId} (hu : P.underlying t = some (.pointer e)) (a : Addr) (w : World) : (Op.equal t (.pointer (some a)) (.pointer none)).run P w = .ok false w := by
  have h : ∀ d : Nat, (Op.equalIn (d + 1) t (.pointer (some a)) (.pointer none)).run P w = .ok false w := fun d => by simp [Op.equalIn, run_underlying hu]
  exact h 9999

theorem run_bin_bool {P : Program} {t : TypeId} (hu : P.underlying t = some .bool) (a b : Bool) (w : World) (xo yo : Operand) :
    (do eqGuard .eql t xo yo (.bool a) (.bool b); binOp .eql t (.bool a) (.bool b) : Sem Value).run P w = .ok (.bool (a == b)) w ∧
    (do eqGuard .neq t xo yo (.bool a) (.bool b); binOp .neq t (.bool a) (.bool b) : Sem Value).run P w = .ok (.bool (!(a == b))) w := by
  have h := run_equal_bool hu a b w
  constructor <;> simp only [eqGuard, binOp, Sem.run_bind, Sem.run_pure, h, Result.andThen_ok, Bool.not_true, Bool.false_eq_true, if_false]

theorem run_bin_nil {P : Program} {t e : TypeId} (hu : P.underlying t = some (.pointer e)) (w : World) (xo yo : Operand) :
    (do eqGuard .eql t xo yo (.pointer none) (.pointer none); binOp .eql t (.pointer none) (.pointer none) : Sem Value).run P w = .ok (.bool true) w ∧
    (do eqGuard .neq t xo yo (.pointer none) (.pointer none); binOp .neq t (.pointer none) (.pointer none) : Sem Value).run P w = .ok (.bool false) w := by
  have h := run_equal_nil hu w
  constructor <;> simp only [eqGuard, binOp, Sem.run_bind, Sem.run_pure, h, Result.andThen_ok, Bool.not_true, Bool.false_eq_true, if_false]

theorem run_bin_ptr {P : Program} {t e : TypeId} (hu : P.underlying t = some (.pointer e)) (a : Addr) (w : World) (xo yo : Operand) :
    (do eqGuard .eql t xo yo (.pointer (some a)) (.pointer none); binOp .eql t (.pointer (some a)) (.pointer none) : Sem Value).run P w = .ok (.bool false) w ∧
    (do eqGuard .neq t xo yo (.pointer (some a)) (.pointer none); binOp .neq t (.pointer (some a)) (.pointer none) : Sem Value).run P w = .ok (.bool true) w := by
  have h := run_equal_ptr hu a w
  constructor <;> simp only [eqGuard, binOp, Sem.run_bind, Sem.run_pure, h, Result.andThen_ok, Bool.not_true, Bool.false_eq_true, if_false, Bool.not_false]

theorem run_equal_slice {P : Program} {t e : TypeId} (hu : P.underlying t = some (.slice e)) (a : Option Addr) (n c : Nat) (w : World) : (Op.equal t (.slice a n c) (.slice none 0 0)).run P w = .ok a.isNone w := by
  have h : ∀ d : Nat, (Op.equalIn (d + 1) t (.slice a n c) (.slice none 0 0)).run P w = .ok a.isNone w := fun d => by cases a <;> simp [Op.equalIn, run_underlying hu]
  exact h 9999

theorem run_bin_slice {P : Program} {t e : TypeId} (hu : P.underlying t = some (.slice e)) (a : Option Addr) (n c : Nat) (w : World) (xo yo : Operand) :
    (do eqGuard .eql t xo yo (.slice a n c) (.slice none 0 0); binOp .eql t (.slice a n c) (.slice none 0 0) : Sem Value).run P w = .ok (.bool a.isNone) w := by
  have h := run_equal_slice hu a n c w
  simp only [eqGuard, binOp, Sem.run_bind, Sem.run_pure, h, Result.andThen_ok, Bool.not_true, Bool.false_eq_true, if_false]

theorem nilSl_sound {P : Program} {op : BinOp} {t : TypeId} {xo yo : Operand} {x : V} {ux : Value} {σ : Gh} {s : List Obj} {w : World} {K : V → Prop} (hx : RepV σ s w x ux) (h : nilSlWp P op t x K) :
    ∃ v c, (do eqGuard op t xo yo ux (.slice none 0 0); binOp op t ux (.slice none 0 0) : Sem Value).run P w = .ok c w ∧ RepV σ s w v c ∧ K v := by
  obtain ⟨⟨e, hu⟩, rfl, h⟩ := h
  split at h
  · cases hx with | d hx => ?_
    cases hx with
    | nil => exact ⟨_, _, run_bin_slice hu _ _ _ w xo yo, .d (.ub _), h⟩
    | sl _ a cap sz f h1 h2 h3 h4 h5 => exact ⟨_, _, run_bin_slice hu _ _ _ w xo yo, .d (.ub _), h⟩
  · cases hx with | d hx => ?_
    cases hx with
    | sl _ a cap sz f h1 h2 h3 h4 h5 => exact ⟨_, _, run_bin_slice hu _ _ _ w xo yo, .d (.sc _ rfl), h⟩
  · cases hx with | fu hx => ?_
    exact ⟨_, _, run_bin_slice hu _ _ _ w xo yo, .d (.ub _), h⟩
  · cases hx with | fu hx => ?_
    cases hx with
    | sl _ a cap sz f h1 h2 h3 h4 h5 => exact ⟨_, _, run_bin_slice hu _ _ _ w xo yo, .d (.sc _ rfl), h⟩
  · exact h.elim

theorem bin_sound {P : Program} {op : BinOp} {t : TypeId} {xo yo : Operand} {x y : V} {ux uy : Value} {σ : Gh} {s : List Obj} {w : World} {K : V → Prop} (hx : RepV σ s w x ux) (hy : RepV σ s w y uy) (h : binWp P op t s x y K) :
    ∃ v c, (do eqGuard op t xo yo ux uy; binOp op t ux uy : Sem Value).run P w = .ok c w ∧ RepV σ s w v c ∧ K v := by
  have bl : ∀ (b : Bool), K (.d (.sc (.bool b))) → (do eqGuard op t xo yo ux uy; binOp op t ux uy : Sem Value).run P w = .ok (.bool b) w →
      ∃ v c, (do eqGuard op t xo yo ux uy; binOp op t ux uy : Sem Value).run P w = .ok c w ∧ RepV σ s w v c ∧ K v := fun b hk hr => ⟨_, _, hr, .d (.sc _ rfl), hk⟩
  unfold binWp at h
  split at h
  · rename_i k a k' b
    obtain ⟨rfl, h⟩ := h
    cases hx with | d hx => ?_
    cases hx with | sc _ _ => ?_
    cases hy with | d hy => ?_
    cases hy with | sc _ _ => ?_
    have it : ∀ (n : Int), K (.d (.sc (.int k n))) → (do eqGuard op t xo yo (.int k a) (.int k b); binOp op t (.int k a) (.int k b) : Sem Value).run P w = .ok (.int k n) w →
      ∃ v c, (do eqGuard op t xo yo (.int k a) (.int k b); binOp op t (.int k a) (.int k b) : Sem Value).run P w = .ok c w ∧ RepV σ s w v c ∧ K v := fun n hk hr => ⟨_, _, hr, .d (.sc _ rfl), hk⟩
    cases op <;> simp only [intWp] at h
    case add => exact it _ h (by simp [eqGuard, binOp, Op.intArith])
    case sub => exact it _ h (by simp [eqGuard, binOp, Op.intArith])
    case mul => exact it _ h (by simp [eqGuard, binOp, Op.intArith])
    case quo => exact it _ h.2 (by simp [eqGuard, binOp, Op.intDiv, h.1])
    case rem => exact it _ h.2 (by simp [eqGuard, binOp, Op.intDiv, h.1])
    case and => exact it _ h (by simp [eqGuard, binOp, Op.intBits, bitV])
    case or => exact it _ h (by simp [eqGuard, binOp, Op.intBits, bitV])
    case xor => exact it _ h (by simp [eqGuard, binOp, Op.intBits, bitV])
    case eql => exact bl _ h (by simp [eqGuard, binOp, Op.intCmp]; rfl)
    case neq => exact bl _ h (by simp [eqGuard, binOp, Op.intCmp]; rfl)
    case lss => exact bl _ h (by simp [eqGuard, binOp, Op.intCmp])
    case leq => exact bl _ h (by simp [eqGuard, binOp, Op.intCmp])
    case gtr => exact bl _ h (by simp [eqGuard, binOp, Op.intCmp])
    case geq => exact bl _ h (by simp [eqGuard, binOp, Op.intCmp])
  · rename_i a b
    obtain ⟨hu, h⟩ := h
    cases hx with | d hx => ?_
    cases hx with | sc _ _ => ?_
    cases hy with | d hy => ?_
    cases hy with | sc _ _ => ?_
    split at h
    · exact bl _ h (run_bin_bool hu a b w xo yo).1
    · exact bl _ h (run_bin_bool hu a b w xo yo).2
    · exact h.elim
  · obtain ⟨⟨e, hu⟩, h⟩ := h
    cases hx with | d hx => ?_
    cases hx with | sc _ _ => ?_
    cases hy with | d hy => ?_
    cases hy with | sc _ _ => ?_
    split at h
    · exact bl _ h (run_bin_nil hu w xo yo).1
    · exact bl _ h (run_bin_nil hu w xo yo).2
    · exact h.elim
  · obtain ⟨hp, ⟨e, hu⟩, h⟩ := h
    obtain ⟨ad, rfl⟩ := isPtr_spec hx hp
    cases hy with | d hy => ?_
    cases hy with | sc _ _ => ?_
    split at h
    · exact bl _ h (run_bin_ptr hu ad w xo yo).1
    · exact bl _ h (run_bin_ptr hu ad w xo yo).2
    · exact h.elim
  · exact h.elim

def unWp (op : UnOp) (x : V) (K : V → Prop) : Prop :=
  match op, x with
  | .neg, .d (.sc (.int k n)) => K (.d (.sc (.int k (k.wrap (0 - n)))))
  | .not, .d (.sc (.bool b)) => K (.d (.sc (.bool !b)))
  | _, _ => False

theorem un_sound {P : Program} {op : UnOp} {x : V} {ux : Value} {σ : Gh} {s : List Obj} {w : World} {K : V → Prop} (hx : RepV σ s w x ux) (h : unWp op x K) :
    ∃ v c, (Op.unary op ux).run P w = .ok c w ∧ RepV σ s w v c ∧ K v := by
  unfold unWp at h
  split at h
  · cases hx with | d hx => ?_
    cases hx with | sc _ _ => ?_
    exact ⟨_, _, by simp [Op.unary, Op.intArith], .d (.sc _ rfl), h⟩
  · cases hx with | d hx => ?_
    cases hx with | sc _ _ => ?_
    exact ⟨_, _, by simp [Op.unary], .d (.sc _ rfl), h⟩
  · exact h.elim

def convWp (P : Program) (src dst : TypeId) (x : V) (K : V → Prop) : Prop :=
  match x with
  | .d (.sc (.int _ n)) => match P.underlying src, P.underlying dst with
    | some (.int _), some (.int k) => K (.d (.sc (.int k (k.wrap n))))
    | _, _ => False
  | _ => False

theorem conv_sound {P : Program} {src dst : TypeId} {x : V} {ux : Value} {σ : Gh} {s : List Obj} {w : World} {K : V → Prop} (hx : RepV σ s w x ux) (h : convWp P src dst x K) :
    ∃ v c, (convert src dst ux).run P w = .ok c w ∧ RepV σ s w v c ∧ K v := by
  unfold convWp at h
  split at h
  case h_2 => exact h.elim
  cases hx with | d hx => ?_
  cases hx with | sc _ _ => ?_
  split at h
  case h_2 => exact h.elim
  rename_i h1 h2
  exact ⟨_, _, by simp [convert, run_underlying h1, run_underlying h2, Conv.intToInt], .d (.sc _ rfl), h⟩

/-- min and max of integers. -/
def minmaxWp (mn : Bool) (acc : V) : List V → (V → Prop) → Prop
  | [], K => K acc
  | y :: rest, K => match acc, y with
    | .d (.sc (.int k a)), .d (.sc (.int _ b)) => minmaxWp mn (.d (.sc (.int k (if mn then min a b else max a b)))) rest K
    | _, _ => False

theorem minmax_sound {P : Program} {mn : Bool} {σ : Gh} {s : List Obj} {w : World} : ∀ (ys : List V) (us : List Value) (acc : V) (c : Value) (K : V → Prop), RepV σ s w acc c → us.length = ys.length →
    (∀ (i : Nat) (y : V), ys[i]? = some y → ∃ u, us[i]? = some u ∧ RepV σ s w y u) → minmaxWp mn acc ys K →
    ∃ v r, (us.foldlM (if mn then Builtin.min2 else Builtin.max2) c).run P w = .ok r w ∧ RepV σ s w v r ∧ K v
  | [], [], acc, c, K, hr, _, _, h => ⟨acc, c, by simp, hr, h⟩
  | [], _ :: _, _, _, _, _, hl, _, _ => by simp at hl
  | _ :: _, [], _, _, _, _, hl, _, _ => by simp at hl
  | y :: ys, u :: us, acc, c, K, hr, hl, hy, h => by
    obtain ⟨u', hu, hru⟩ := hy 0 y rfl
    simp only [List.getElem?_cons_zero, Option.some.injEq] at hu
    subst hu
    unfold minmaxWp at h
    split at h
    · cases hr with | d hr => ?_
      cases hr with | sc _ _ => ?_
      cases hru with | d hru => ?_
      cases hru with | sc _ _ => ?_
      rename_i k a k' b _ _
      obtain ⟨v, r, h1, h2, h3⟩ := minmax_sound (P := P) (mn := mn) ys us _ (.int k (if mn then min a b else max a b)) K (.d (.sc _ rfl)) (by simpa using hl) (fun i z hz => hy (i + 1) z (by simpa using hz)) h
      refine ⟨v, r, ?_, h2, h3⟩
      rw [List.foldlM_cons]
      cases mn
      · have : (if b > a then b else a) = max a b := by omega
        simp only [Bool.false_eq_true, if_false] at h1 ⊢
        simp [Builtin.max2, this, h1]
      · have : (if b < a then b else a) = min a b := by omega
        simp only [if_true] at h1 ⊢
        simp [Builtin.min2, this, h1]
    · exact h.elim

/-! ### Calls -/

def okFn (P : Program) (f : FuncId) : Bool :=
  match P.funcs[f]? with
  | some fn => fn.name != "runtime.NumGoroutine" && fn.body.isSome
  | none => false

/-- Whatever world the call is made in: it returns, and K holds of what it returns and of the objects behind it. -/
def callWp (P : Program) (f : FuncId) (args : List V) (s : List Obj) (K : V → List Obj → Prop) : Prop :=
  okFn P f = true ∧ ∀ (σ : Gh) (w : World) (vals : Array Value), Inv σ s w → vals.size = args.length → (∀ (i : Nat) (x : V), args[i]? = some x → RepV σ s w x (vals.getD i undef)) →
    Calls P f vals w fun e w' => ∃ u v σ' s', e = .returned u ∧ Evolve σ s w σ' s' w' ∧ Inv σ' s' w' ∧ RepV σ' s' w' v u ∧ K v s'

theorem callFunc_run {P : Program} {f : FuncId} (h : okFn P f = true) (args : Array Value) (w : World) : (callFunc f args).run P w = .ok (.enter f args) w := by
  unfold okFn at h
  split at h
  · rename_i fn hf
    simp only [Bool.and_eq_true, bne_iff_ne, ne_eq] at h
    obtain ⟨h1, h2⟩ := h
    cases hb : fn.body with
    | none => rw [hb] at h2; cases h2
    | some c => simp [callFunc, hf, h1, hb]
  · cases h

def callOpWp (P : Program) (c : Call) (e : Nat → V) (s : List Obj) (K : V → List Obj → Prop) : Prop :=
  match c.callee with
  | .value (.func f) => callWp P f (c.args.toList.map (ev e)) s K
  | .value f => match ev e f with
    | .cl (.func g) first caps => callWp P g (first ++ c.args.toList.map (ev e) ++ caps) s K
    | _ => False
  | .builtin b => match b, c.args.toList, c.argTypes.toList with
    | .len, [x], [t] => lenWp P t (ev e x) s fun v => K v s
    | .append, [a, x], [t, t'] => t = t' ∧ appendWp P t (ev e a) (ev e x) s K
    | .min, x :: rest, _ => minmaxWp true (ev e x) (rest.map (ev e)) fun v => K v s
    | .max, x :: rest, _ => minmaxWp false (ev e x) (rest.map (ev e)) fun v => K v s
    | _, _, _ => False
  | _ => False

def nilWp (s : List Obj) (x : V) (K : V → Prop) : Prop :=
  match x with
  | .d (.el cs) => K (.d (.el cs))
  | .rf id g i off => atG s id g fun _ => K (.rf id g i off)
  | .cl (.func f) first caps => K (.cl (.func f) first caps)
  | _ => False

def boolWp (x : V) (A B : Prop) : Prop :=
  match x with
  | .d (.sc (.bool b)) => (b = true → A) ∧ (b = false → B)
  | _ => False

def tupWp (x : V) (i : Nat) (K : V → Prop) : Prop :=
  match x with
  | .tu vs => match vs[i]? with
    | some v => K v
    | none => False
  | _ => False

def opWp (P : Program) (o : Oper) (e : Nat → V) (s : List Obj) (K : V → List Obj → Prop) : Prop :=
  match o.op with
  | .move x => K (ev e x) s
  | .assign x => K (ev e x) s
  | .pick c a b => boolWp (ev e c) (K (ev e a) s) (K (ev e b) s)
  | .alloc t => allocWp P t s K
  | .box _ x => boxWp s (ev e x) K
  | .build t parts => buildWp P t (parts.toList.map fun p => (p.1, ev e p.2)) fun v => K v s
  | .buildSlice t n parts => buildSliceWp P t n (parts.toList.map fun p => (p.1, ev e p.2)) s K
  | .load t a => loadWp P t s (ev e a) fun v => K v s
  | .store t a x => storeWp P t s (ev e a) (ev e x) fun s' => K .un s'
  | .nilCheck x => nilWp s (ev e x) fun v => K v s
  | .binOp op t x y _ => bif nilC y then nilSlWp P op t (ev e x) (fun v => K v s) else binWp P op t s (ev e x) (ev e y) fun v => K v s
  | .unOp op _ x => unWp op (ev e x) fun v => K v s
  | .convert src dst x => convWp P src dst (ev e x) fun v => K v s
  | .makeFunc fn first caps => K (.cl fn (first.toList.map (ev e)) (caps.toList.map (ev e))) s
  | .makeSlice t l c => makeSliceWp P t (ev e l) (ev e c) s K
  | .slice t x lo hi mx => sliceWp P t (ev e x) (lo.map (ev e)) (hi.map (ev e)) (mx.map (ev e)) s fun v => K v s
  | .fieldAddr t x f => fieldAddrWp P t s (ev e x) f fun v => K v s
  | .field t x f => fieldWp P t (ev e x) f fun v => K v s
  | .indexAddr t x i => indexAddrWp P t s (ev e x) (ev e i) fun v => K v s
  | .index t x i => indexWp P t (ev e x) (ev e i) fun v => K v s
  | .extract x i => tupWp (ev e x) i fun v => K v s
  | .call c => callOpWp P c e s K
  | _ => False

def RepE (σ : Gh) (s : List Obj) (w : World) (N : Nat) (e : Nat → V) (a : Act) : Prop :=
  a.defers = [] ∧ a.tmps.size = N ∧ ∀ t, RepV σ s w (e t) (a.tmps.getD t undef)

theorem RepE.ev {σ s w N e a} (h : RepE σ s w N e a) (x : Operand) : RepV σ s w (ev e x) (a.eval x) := by
  cases x with
  | tmp t => exact h.2.2 t
  | const v => exact cv_rep v
  | global g => exact .any
  | func f => exact .cl rfl (fun i x hx => by simp at hx) rfl (fun i x hx => by simp at hx)

/-- What an operation leaves. -/
def TriOp (P : Program) (o : Oper) (σ : Gh) (s : List Obj) (w : World) (a : Act) (K : V → List Obj → Prop) : Prop :=
  o.wp P a w (fun a' w' => ∃ u v σ' s', a' = a.put o.dst u ∧ Evolve σ s w σ' s' w' ∧ Inv σ' s' w' ∧ RepV σ' s' w' v u ∧ K v s') (fun _ _ _ => False)

theorem tri_value {P : Program} {o : Oper} {σ : Gh} {s : List Obj} {w : World} {a : Act} {K : V → List Obj → Prop} {u : Value} {v : V} {σ' : Gh} {s' : List Obj} {w' : World} (hr : (execOp a.eval o).run P w = .ok (.value u) w')
    (hE : Evolve σ s w σ' s' w') (hI : Inv σ' s' w') (hv : RepV σ' s' w' v u) (hK : K v s') : TriOp P o σ s w a K := by
  unfold TriOp Oper.wp
  rw [hr, Oper.upon_value]
  exact ⟨u, v, σ', s', rfl, hE, hI, hv, hK⟩

theorem map_rep {σ : Gh} {s : List Obj} {w : World} {N : Nat} {e : Nat → V} {a : Act} (h : RepE σ s w N e a) (l : List Operand) : ∀ (i : Nat) (x : V), (l.map (ev e))[i]? = some x → ∃ u, (l.map a.eval)[i]? = some u ∧ RepV σ s w x u := by
  intro i x hx
  rw [List.getElem?_map] at hx ⊢
  obtain ⟨y, hy, rfl⟩ := Option.map_eq_some_iff.1 hx
  rw [hy]
  exact ⟨_, rfl, h.ev y⟩

theorem parts_rep {σ : Gh} {s : List Obj} {w : World} {N : Nat} {e : Nat → V} {a : Act} (h : RepE σ s w N e a) (l : List (Nat × Operand)) :
    ∀ (j : Nat) i x, (l.map fun p => (p.1, ev e p.2))[j]? = some (i, x) → ∃ u, (l.map fun p => (p.1, a.eval p.2))[j]? = some (i, u) ∧ RepV σ s w x u := by
  intro j i x hx
  rw [List.getElem?_map] at hx ⊢
  obtain ⟨y, hy, h'⟩ := Option.map_eq_some_iff.1 hx
  simp only [Prod.mk.injEq] at h'
  obtain ⟨rfl, rfl⟩ := h'
  rw [hy]
  exact ⟨_, rfl, h.ev y.2⟩

theorem tri_call {P : Program} {o : Oper} {σ : Gh} {s : List Obj} {w : World} {a : Act} {K : V → List Obj → Prop} {f : FuncId} {vals : Array Value} {args : List V} (hr : (execOp a.eval o).run P w = (callFunc f vals).run P w)
    (hI : Inv σ s w) (hl : vals.size = args.length) (hv : ∀ (i : Nat) (x : V), args[i]? = some x → RepV σ s w x (vals.getD i undef)) (h : callWp P f args s K) : TriOp P o σ s w a K := by
  unfold TriOp Oper.wp
  rw [hr, callFunc_run h.1, Oper.upon_enter]
  refine (h.2 σ w vals hI hl hv).mono fun e w' ⟨u, v, σ', s', he, hE, hI', hR, hK⟩ => ?_
  subst he
  exact ⟨u, v, σ', s', rfl, hE, hI', hR, hK⟩

theorem getD_of_list {l : List Value} {i : Nat} {u : Value} (h : l[i]? = some u) (d : Value) : l.toArray.getD i d = u := by
  have hlt := (List.getElem?_eq_some_iff.1 h).1
  have := (List.getElem?_eq_some_iff.1 h).2
  simp [Array.getD, hlt, this]

end Go.VL
