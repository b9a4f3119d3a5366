/- The V-logic, part 18: the equations that simp takes; both arms of a condition stay folded until the condition is known. -/
import Derived.Test.YtafbdphblilenaaVq
namespace Go.VL

def atS (K : V → List Obj → Prop) (s : List Obj) (v : V) : Prop := K v s
theorem atS_app {K : V → List Obj → Prop} {s : List Obj} {v : V} : atS K s v = K v s := (rfl)
def unS (K : V → List Obj → Prop) (s : List Obj) : Prop := K .un s
theorem unS_app {K : V → List Obj → Prop} {s : List Obj} : unS K s = K .un s := (rfl)

/-- A condition: each arm is a statement about x. -/
def condF {α β : Type} (x : V) (A B : α → β → Prop) (e : α) (s : β) : Prop := condWp x (A e s) (B e s)
theorem condF_true {α β : Type} {A B : α → β → Prop} {e : α} {s : β} : condF (.d (.sc (.bool true))) A B e s = A e s := by simp [condF, condWp, boolWp]
theorem condF_false {α β : Type} {A B : α → β → Prop} {e : α} {s : β} : condF (.d (.sc (.bool false))) A B e s = B e s := by simp [condF, condWp, boolWp]
theorem condF_dec {α β : Type} {A B : α → β → Prop} {e : α} {s : β} {p : Prop} [Decidable p] : condF (.d (.sc (.bool (decide p)))) A B e s = ((p → A e s) ∧ (¬ p → B e s)) := by simp [condF, condWp, boolWp]
theorem condF_not {α β : Type} {A B : α → β → Prop} {e : α} {s : β} {b : Bool} : condF (.d (.sc (.bool (!b)))) A B e s = condF (.d (.sc (.bool b))) B A e s := by cases b <;> simp [condF, condWp, boolWp]
theorem condF_ub {α β : Type} {A B : α → β → Prop} {e : α} {s : β} : condF (.d .ub) A B e s = (A e s ∧ B e s) := (rfl)
theorem condF_gen {α β : Type} {A B : α → β → Prop} {e : α} {s : β} {b : Bool} : condF (.d (.sc (.bool b))) A B e s = ((b = true → A e s) ∧ (b = false → B e s)) := by simp [condF, condWp, boolWp]

def condK (x : V) (A B : List Obj → Prop) (s : List Obj) : Prop := boolWp x (A s) (B s)
theorem condK_true {A B : List Obj → Prop} {s : List Obj} : condK (.d (.sc (.bool true))) A B s = A s := by simp [condK, boolWp]
theorem condK_false {A B : List Obj → Prop} {s : List Obj} : condK (.d (.sc (.bool false))) A B s = B s := by simp [condK, boolWp]
theorem condK_dec {A B : List Obj → Prop} {s : List Obj} {p : Prop} [Decidable p] : condK (.d (.sc (.bool (decide p)))) A B s = ((p → A s) ∧ (¬ p → B s)) := by simp [condK, boolWp]
theorem condK_not {A B : List Obj → Prop} {s : List Obj} {b : Bool} : condK (.d (.sc (.bool (!b)))) A B s = condK (.d (.sc (.bool b))) B A s := by cases b <;> simp [condK, boolWp]
theorem condK_gen {A B : List Obj → Prop} {s : List Obj} {b : Bool} : condK (.d (.sc (.bool b))) A B s = ((b = true → A s) ∧ (b = false → B s)) := by simp [condK, boolWp]

/-- A guard: x is what its slot d holds. -/
def guardV (x : V) (d : Nat) (want : Bool) (A B : Env → Prop) (e : Env) : Prop :=
  match x with
  | .d (.sc (.bool b)) => (b = want → A (updE e d (.d (.sc (.bool want))))) ∧ (b = (!want) → B (updE e d (.d (.sc (.bool (!want))))))
  | .un => B e
  | _ => False
theorem guardV_tt {d : Nat} {A B : Env → Prop} {e : Env} : guardV (.d (.sc (.bool true))) d true A B e = A (updE e d (.d (.sc (.bool true)))) := by simp [guardV]
theorem guardV_ff {d : Nat} {A B : Env → Prop} {e : Env} : guardV (.d (.sc (.bool false))) d false A B e = A (updE e d (.d (.sc (.bool false)))) := by simp [guardV]
theorem guardV_tf {d : Nat} {A B : Env → Prop} {e : Env} : guardV (.d (.sc (.bool true))) d false A B e = B (updE e d (.d (.sc (.bool true)))) := by simp [guardV]
theorem guardV_ft {d : Nat} {A B : Env → Prop} {e : Env} : guardV (.d (.sc (.bool false))) d true A B e = B (updE e d (.d (.sc (.bool false)))) := by simp [guardV]
theorem guardV_un {d : Nat} {want : Bool} {A B : Env → Prop} {e : Env} : guardV .un d want A B e = B e := (rfl)
theorem guardV_dt {d : Nat} {A B : Env → Prop} {e : Env} {p : Prop} [Decidable p] : guardV (.d (.sc (.bool (decide p)))) d true A B e = ((p → A (updE e d (.d (.sc (.bool true))))) ∧ (¬ p → B (updE e d (.d (.sc (.bool false)))))) := by simp [guardV]
theorem guardV_df {d : Nat} {A B : Env → Prop} {e : Env} {p : Prop} [Decidable p] : guardV (.d (.sc (.bool (decide p)))) d false A B e = ((p → B (updE e d (.d (.sc (.bool true))))) ∧ (¬ p → A (updE e d (.d (.sc (.bool false)))))) := by
  simp only [guardV, decide_eq_false_iff_not, Bool.not_false, decide_eq_true_eq]; exact propext And.comm
theorem guardV_ndt {d : Nat} {A B : Env → Prop} {e : Env} {p : Prop} [Decidable p] : guardV (.d (.sc (.bool (!decide p)))) d true A B e = ((p → B (updE e d (.d (.sc (.bool false))))) ∧ (¬ p → A (updE e d (.d (.sc (.bool true)))))) := by
  simp only [guardV, Bool.not_eq_true', Bool.not_true, Bool.not_eq_false', decide_eq_false_iff_not, decide_eq_true_eq]; exact propext And.comm
theorem guardV_ndf {d : Nat} {A B : Env → Prop} {e : Env} {p : Prop} [Decidable p] : guardV (.d (.sc (.bool (!decide p)))) d false A B e = ((p → A (updE e d (.d (.sc (.bool false))))) ∧ (¬ p → B (updE e d (.d (.sc (.bool true)))))) := by
  simp only [guardV, Bool.not_eq_true', Bool.not_false, Bool.not_eq_false', decide_eq_false_iff_not, decide_eq_true_eq]

def guardS (x : Option Nat) (want : Bool) (A B : Env → Prop) (e : Env) : Prop := guardWp x e want A B
theorem guardS_some {d : Nat} {want : Bool} {A B : Env → Prop} {e : Env} : guardS (some d) want A B e = guardV (e d) d want A B e := by
  unfold guardS guardWp guardV; exact (rfl)

def gA (P : Program) (N : Nat) (full rest : List Oper) (d : Option Nat) (o : Oper) (s : List Obj) (K : Env → List Obj → Prop) (e : Env) : Prop := opWp P o e s (cont P N full rest e d K)
def gB (P : Program) (N : Nat) (full rest : List Oper) (d : Option Nat) (s : List Obj) (K : Env → List Obj → Prop) (e : Env) : Prop := opsWp P N full rest (updO e d .un) s K
theorem gA_app {P : Program} {N : Nat} {full rest : List Oper} {d : Option Nat} {o : Oper} {s : List Obj} {K : Env → List Obj → Prop} {e : Env} : gA P N full rest d o s K e = opWp P o e s (cont P N full rest e d K) := (rfl)
theorem gB_app {P : Program} {N : Nat} {full rest : List Oper} {d : Option Nat} {s : List Obj} {K : Env → List Obj → Prop} {e : Env} : gB P N full rest d s K e = opsWp P N full rest (updO e d .un) s K := (rfl)

theorem opsW_none {P : Program} {N : Nat} {full rest : List Oper} {d : Option Nat} {op : Op} {ty : TypeId} {pos : String} {af : Array Edge} {e : Env} {s : List Obj} {K : Env → List Obj → Prop} :
    opsWp P N full (⟨d, op, ty, pos, af, none⟩ :: rest) e s K = (dstOk N d ∧ opWp P ⟨d, op, ty, pos, af, none⟩ e s (cont P N full rest e d K)) := (rfl)
theorem opsW_some {P : Program} {N : Nat} {full rest : List Oper} {d : Option Nat} {op : Op} {ty : TypeId} {pos : String} {af : Array Edge} {g : Nat} {want : Bool} {e : Env} {s : List Obj} {K : Env → List Obj → Prop} :
    opsWp P N full (⟨d, op, ty, pos, af, some (g, want)⟩ :: rest) e s K = (dstOk N d ∧ guardS (gslot full g) want (gA P N full rest d ⟨d, op, ty, pos, af, some (g, want)⟩ s K) (gB P N full rest d s K) e) := (rfl)

theorem codeW_cond {P : Program} {N L M : Nat} {Q : Exit → Env → List Obj → Prop} {e : Env} {s : List Obj} {c : Operand} {a b : Code} : codeWp P N L M (.cond c a b) Q e s = condF (ev e c) (codeWp P N L M a Q) (codeWp P N L M b Q) (trimE M e) s := (rfl)

/-! Drawn regions. -/

def hA (P : Program) (N : Nat) (full : List Oper) (bars : List Nat) (fs : Foots) (i : Nat) (rest : List Oper) (d : Option Nat) (o : Oper) (s : List Obj) (K : Env → List Obj → Prop) (e : Env) : Prop := stepC P bars fs i o e s (contC P N full bars fs (i + 1) rest e d K)
def hB (P : Program) (N : Nat) (full : List Oper) (bars : List Nat) (fs : Foots) (i : Nat) (rest : List Oper) (d : Option Nat) (s : List Obj) (K : Env → List Obj → Prop) (e : Env) : Prop := lexC P N full bars fs (i + 1) rest (updO e d .un) s K
theorem hA_app {P : Program} {N : Nat} {full : List Oper} {bars : List Nat} {fs : Foots} {i : Nat} {rest : List Oper} {d : Option Nat} {o : Oper} {s : List Obj} {K : Env → List Obj → Prop} {e : Env} : hA P N full bars fs i rest d o s K e = stepC P bars fs i o e s (contC P N full bars fs (i + 1) rest e d K) := (rfl)
theorem hB_app {P : Program} {N : Nat} {full : List Oper} {bars : List Nat} {fs : Foots} {i : Nat} {rest : List Oper} {d : Option Nat} {s : List Obj} {K : Env → List Obj → Prop} {e : Env} : hB P N full bars fs i rest d s K e = lexC P N full bars fs (i + 1) rest (updO e d .un) s K := (rfl)

theorem lexW_move {P : Program} {N : Nat} {full : List Oper} {bars : List Nat} {fs : Foots} {i : Nat} {rest : List Oper} {d : Option Nat} {x : Operand} {ty : TypeId} {pos : String} {af : Array Edge} {e : Env} {s : List Obj} {K : Env → List Obj → Prop} :
    lexC P N full bars fs i (⟨d, .move x, ty, pos, af, none⟩ :: rest) e s K = (dstOk N d ∧ stepC P bars fs i ⟨d, .move x, ty, pos, af, none⟩ e s (contC P N full bars fs (i + 1) rest e d K)) := (rfl)
theorem lexW_assign {P : Program} {N : Nat} {full : List Oper} {bars : List Nat} {fs : Foots} {i : Nat} {rest : List Oper} {d : Option Nat} {x : Operand} {ty : TypeId} {pos : String} {af : Array Edge} {e : Env} {s : List Obj} {K : Env → List Obj → Prop} :
    lexC P N full bars fs i (⟨d, .assign x, ty, pos, af, none⟩ :: rest) e s K = (dstOk N d ∧ stepC P bars fs i ⟨d, .assign x, ty, pos, af, none⟩ e s (contC P N full bars fs (i + 1) rest e d K)) := (rfl)
theorem lexW_alloc {P : Program} {N : Nat} {full : List Oper} {bars : List Nat} {fs : Foots} {i : Nat} {rest : List Oper} {d : Option Nat} {t : TypeId} {ty : TypeId} {pos : String} {af : Array Edge} {e : Env} {s : List Obj} {K : Env → List Obj → Prop} :
    lexC P N full bars fs i (⟨d, .alloc t, ty, pos, af, none⟩ :: rest) e s K = (dstOk N d ∧ stepC P bars fs i ⟨d, .alloc t, ty, pos, af, none⟩ e s (contC P N full bars fs (i + 1) rest e d K)) := (rfl)
theorem lexW_box {P : Program} {N : Nat} {full : List Oper} {bars : List Nat} {fs : Foots} {i : Nat} {rest : List Oper} {d : Option Nat} {t : TypeId} {x : Operand} {ty : TypeId} {pos : String} {af : Array Edge} {e : Env} {s : List Obj} {K : Env → List Obj → Prop} :
    lexC P N full bars fs i (⟨d, .box t x, ty, pos, af, none⟩ :: rest) e s K = (dstOk N d ∧ stepC P bars fs i ⟨d, .box t x, ty, pos, af, none⟩ e s (contC P N full bars fs (i + 1) rest e d K)) := (rfl)
theorem lexW_build {P : Program} {N : Nat} {full : List Oper} {bars : List Nat} {fs : Foots} {i : Nat} {rest : List Oper} {d : Option Nat} {t : TypeId} {parts : Array (Nat × Operand)} {ty : TypeId} {pos : String} {af : Array Edge} {e : Env} {s : List Obj} {K : Env → List Obj → Prop} :
    lexC P N full bars fs i (⟨d, .build t parts, ty, pos, af, none⟩ :: rest) e s K = (dstOk N d ∧ stepC P bars fs i ⟨d, .build t parts, ty, pos, af, none⟩ e s (contC P N full bars fs (i + 1) rest e d K)) := (rfl)
theorem lexW_buildSlice {P : Program} {N : Nat} {full : List Oper} {bars : List Nat} {fs : Foots} {i : Nat} {rest : List Oper} {d : Option Nat} {t : TypeId} {n : Nat} {parts : Array (Nat × Operand)} {ty : TypeId} {pos : String} {af : Array Edge} {e : Env} {s : List Obj} {K : Env → List Obj → Prop} :
    lexC P N full bars fs i (⟨d, .buildSlice t n parts, ty, pos, af, none⟩ :: rest) e s K = (dstOk N d ∧ stepC P bars fs i ⟨d, .buildSlice t n parts, ty, pos, af, none⟩ e s (contC P N full bars fs (i + 1) rest e d K)) := (rfl)
theorem lexW_load {P : Program} {N : Nat} {full : List Oper} {bars : List Nat} {fs : Foots} {i : Nat} {rest : List Oper} {d : Option Nat} {t : TypeId} {a : Operand} {ty : TypeId} {pos : String} {af : Array Edge} {e : Env} {s : List Obj} {K : Env → List Obj → Prop} :
    lexC P N full bars fs i (⟨d, .load t a, ty, pos, af, none⟩ :: rest) e s K = (dstOk N d ∧ stepC P bars fs i ⟨d, .load t a, ty, pos, af, none⟩ e s (contC P N full bars fs (i + 1) rest e d K)) := (rfl)
theorem lexW_store {P : Program} {N : Nat} {full : List Oper} {bars : List Nat} {fs : Foots} {i : Nat} {rest : List Oper} {d : Option Nat} {t : TypeId} {a x : Operand} {ty : TypeId} {pos : String} {af : Array Edge} {e : Env} {s : List Obj} {K : Env → List Obj → Prop} :
    lexC P N full bars fs i (⟨d, .store t a x, ty, pos, af, none⟩ :: rest) e s K = (dstOk N d ∧ stepC P bars fs i ⟨d, .store t a x, ty, pos, af, none⟩ e s (contC P N full bars fs (i + 1) rest e d K)) := (rfl)
theorem lexW_nil {P : Program} {N : Nat} {full : List Oper} {bars : List Nat} {fs : Foots} {i : Nat} {rest : List Oper} {d : Option Nat} {x : Operand} {ty : TypeId} {pos : String} {af : Array Edge} {e : Env} {s : List Obj} {K : Env → List Obj → Prop} :
    lexC P N full bars fs i (⟨d, .nilCheck x, ty, pos, af, none⟩ :: rest) e s K = (dstOk N d ∧ stepC P bars fs i ⟨d, .nilCheck x, ty, pos, af, none⟩ e s (contC P N full bars fs (i + 1) rest e d K)) := (rfl)
theorem lexW_bin {P : Program} {N : Nat} {full : List Oper} {bars : List Nat} {fs : Foots} {i : Nat} {rest : List Oper} {d : Option Nat} {op : BinOp} {t t' : TypeId} {x y : Operand} {ty : TypeId} {pos : String} {af : Array Edge} {e : Env} {s : List Obj} {K : Env → List Obj → Prop} :
    lexC P N full bars fs i (⟨d, .binOp op t x y t', ty, pos, af, none⟩ :: rest) e s K = (dstOk N d ∧ stepC P bars fs i ⟨d, .binOp op t x y t', ty, pos, af, none⟩ e s (contC P N full bars fs (i + 1) rest e d K)) := (rfl)
theorem lexW_unop {P : Program} {N : Nat} {full : List Oper} {bars : List Nat} {fs : Foots} {i : Nat} {rest : List Oper} {d : Option Nat} {op : UnOp} {t : TypeId} {x : Operand} {ty : TypeId} {pos : String} {af : Array Edge} {e : Env} {s : List Obj} {K : Env → List Obj → Prop} :
    lexC P N full bars fs i (⟨d, .unOp op t x, ty, pos, af, none⟩ :: rest) e s K = (dstOk N d ∧ stepC P bars fs i ⟨d, .unOp op t x, ty, pos, af, none⟩ e s (contC P N full bars fs (i + 1) rest e d K)) := (rfl)
theorem lexW_convert {P : Program} {N : Nat} {full : List Oper} {bars : List Nat} {fs : Foots} {i : Nat} {rest : List Oper} {d : Option Nat} {a b : TypeId} {x : Operand} {ty : TypeId} {pos : String} {af : Array Edge} {e : Env} {s : List Obj} {K : Env → List Obj → Prop} :
    lexC P N full bars fs i (⟨d, .convert a b x, ty, pos, af, none⟩ :: rest) e s K = (dstOk N d ∧ stepC P bars fs i ⟨d, .convert a b x, ty, pos, af, none⟩ e s (contC P N full bars fs (i + 1) rest e d K)) := (rfl)
theorem lexW_makeFunc {P : Program} {N : Nat} {full : List Oper} {bars : List Nat} {fs : Foots} {i : Nat} {rest : List Oper} {d : Option Nat} {fn : Fn} {first caps : Array Operand} {ty : TypeId} {pos : String} {af : Array Edge} {e : Env} {s : List Obj} {K : Env → List Obj → Prop} :
    lexC P N full bars fs i (⟨d, .makeFunc fn first caps, ty, pos, af, none⟩ :: rest) e s K = (dstOk N d ∧ stepC P bars fs i ⟨d, .makeFunc fn first caps, ty, pos, af, none⟩ e s (contC P N full bars fs (i + 1) rest e d K)) := (rfl)
theorem lexW_makeSlice {P : Program} {N : Nat} {full : List Oper} {bars : List Nat} {fs : Foots} {i : Nat} {rest : List Oper} {d : Option Nat} {t : TypeId} {l c : Operand} {ty : TypeId} {pos : String} {af : Array Edge} {e : Env} {s : List Obj} {K : Env → List Obj → Prop} :
    lexC P N full bars fs i (⟨d, .makeSlice t l c, ty, pos, af, none⟩ :: rest) e s K = (dstOk N d ∧ stepC P bars fs i ⟨d, .makeSlice t l c, ty, pos, af, none⟩ e s (contC P N full bars fs (i + 1) rest e d K)) := (rfl)
theorem lexW_slice {P : Program} {N : Nat} {full : List Oper} {bars : List Nat} {fs : Foots} {i : Nat} {rest : List Oper} {d : Option Nat} {t : TypeId} {x : Operand} {lo hi mx : Option Operand} {ty : TypeId} {pos : String} {af : Array Edge} {e : Env} {s : List Obj} {K : Env → List Obj → Prop} :
    lexC P N full bars fs i (⟨d, .slice t x lo hi mx, ty, pos, af, none⟩ :: rest) e s K = (dstOk N d ∧ stepC P bars fs i ⟨d, .slice t x lo hi mx, ty, pos, af, none⟩ e s (contC P N full bars fs (i + 1) rest e d K)) := (rfl)
theorem lexW_fieldAddr {P : Program} {N : Nat} {full : List Oper} {bars : List Nat} {fs : Foots} {i : Nat} {rest : List Oper} {d : Option Nat} {t : TypeId} {x : Operand} {f : Nat} {ty : TypeId} {pos : String} {af : Array Edge} {e : Env} {s : List Obj} {K : Env → List Obj → Prop} :
    lexC P N full bars fs i (⟨d, .fieldAddr t x f, ty, pos, af, none⟩ :: rest) e s K = (dstOk N d ∧ stepC P bars fs i ⟨d, .fieldAddr t x f, ty, pos, af, none⟩ e s (contC P N full bars fs (i + 1) rest e d K)) := (rfl)
theorem lexW_field {P : Program} {N : Nat} {full : List Oper} {bars : List Nat} {fs : Foots} {i : Nat} {rest : List Oper} {d : Option Nat} {t : TypeId} {x : Operand} {f : Nat} {ty : TypeId} {pos : String} {af : Array Edge} {e : Env} {s : List Obj} {K : Env → List Obj → Prop} :
    lexC P N full bars fs i (⟨d, .field t x f, ty, pos, af, none⟩ :: rest) e s K = (dstOk N d ∧ stepC P bars fs i ⟨d, .field t x f, ty, pos, af, none⟩ e s (contC P N full bars fs (i + 1) rest e d K)) := (rfl)
theorem lexW_indexAddr {P : Program} {N : Nat} {full : List Oper} {bars : List Nat} {fs : Foots} {i : Nat} {rest : List Oper} {d : Option Nat} {t : TypeId} {x i' : Operand} {ty : TypeId} {pos : String} {af : Array Edge} {e : Env} {s : List Obj} {K : Env → List Obj → Prop} :
    lexC P N full bars fs i (⟨d, .indexAddr t x i', ty, pos, af, none⟩ :: rest) e s K = (dstOk N d ∧ stepC P bars fs i ⟨d, .indexAddr t x i', ty, pos, af, none⟩ e s (contC P N full bars fs (i + 1) rest e d K)) := (rfl)
theorem lexW_index {P : Program} {N : Nat} {full : List Oper} {bars : List Nat} {fs : Foots} {i : Nat} {rest : List Oper} {d : Option Nat} {t : TypeId} {x i' : Operand} {ty : TypeId} {pos : String} {af : Array Edge} {e : Env} {s : List Obj} {K : Env → List Obj → Prop} :
    lexC P N full bars fs i (⟨d, .index t x i', ty, pos, af, none⟩ :: rest) e s K = (dstOk N d ∧ stepC P bars fs i ⟨d, .index t x i', ty, pos, af, none⟩ e s (contC P N full bars fs (i + 1) rest e d K)) := (rfl)
theorem lexW_extract {P : Program} {N : Nat} {full : List Oper} {bars : List Nat} {fs : Foots} {i : Nat} {rest : List Oper} {d : Option Nat} {x : Operand} {i' : Nat} {ty : TypeId} {pos : String} {af : Array Edge} {e : Env} {s : List Obj} {K : Env → List Obj → Prop} :
    lexC P N full bars fs i (⟨d, .extract x i', ty, pos, af, none⟩ :: rest) e s K = (dstOk N d ∧ stepC P bars fs i ⟨d, .extract x i', ty, pos, af, none⟩ e s (contC P N full bars fs (i + 1) rest e d K)) := (rfl)
theorem lexW_call {P : Program} {N : Nat} {full : List Oper} {bars : List Nat} {fs : Foots} {i : Nat} {rest : List Oper} {d : Option Nat} {c : Call} {ty : TypeId} {pos : String} {af : Array Edge} {e : Env} {s : List Obj} {K : Env → List Obj → Prop} :
    lexC P N full bars fs i (⟨d, .call c, ty, pos, af, none⟩ :: rest) e s K = (dstOk N d ∧ stepC P bars fs i ⟨d, .call c, ty, pos, af, none⟩ e s (contC P N full bars fs (i + 1) rest e d K)) := (rfl)
theorem lexW_pick {P : Program} {N : Nat} {full : List Oper} {bars : List Nat} {fs : Foots} {i : Nat} {rest : List Oper} {d : Option Nat} {c a b : Operand} {ty : TypeId} {pos : String} {af : Array Edge} {e : Env} {s : List Obj} {K : Env → List Obj → Prop} :
    lexC P N full bars fs i (⟨d, .pick c a b, ty, pos, af, none⟩ :: rest) e s K = (dstOk N d ∧ bars.contains i = false ∧ footOf fs i = none ∧ condK (ev e c) (contC P N full bars fs (i + 1) rest e d K (ev e a)) (contC P N full bars fs (i + 1) rest e d K (ev e b)) s) := (rfl)
theorem lexW_some {P : Program} {N : Nat} {full : List Oper} {bars : List Nat} {fs : Foots} {i : Nat} {rest : List Oper} {d : Option Nat} {op : Op} {ty : TypeId} {pos : String} {af : Array Edge} {g : Nat} {want : Bool} {e : Env} {s : List Obj} {K : Env → List Obj → Prop} :
    lexC P N full bars fs i (⟨d, op, ty, pos, af, some (g, want)⟩ :: rest) e s K = (dstOk N d ∧ guardS (gslot full g) want (hA P N full bars fs i rest d ⟨d, op, ty, pos, af, some (g, want)⟩ s K) (hB P N full bars fs i rest d s K) e) := (rfl)

/-! Operations. -/

def callV (P : Program) (x : V) (args : List V) (s : List Obj) (K : V → List Obj → Prop) : Prop :=
  match x with
  | .cl (.func g) first caps => callWp P g (first ++ args ++ caps) s K
  | _ => False
theorem callV_cl {P : Program} {g : FuncId} {first caps args : List V} {s : List Obj} {K : V → List Obj → Prop} : callV P (.cl (.func g) first caps) args s K = callWp P g (first ++ args ++ caps) s K := (rfl)

theorem opW_move {P : Program} {d : Option Nat} {ty : TypeId} {pos : String} {af : Array Edge} {g : Option (Nat × Bool)} {e : Nat → V} {s : List Obj} {K : V → List Obj → Prop} {x : Operand} : opWp P ⟨d, .move x, ty, pos, af, g⟩ e s K = (K (ev e x) s) := (rfl)
theorem opW_assign {P : Program} {d : Option Nat} {ty : TypeId} {pos : String} {af : Array Edge} {g : Option (Nat × Bool)} {e : Nat → V} {s : List Obj} {K : V → List Obj → Prop} {x : Operand} : opWp P ⟨d, .assign x, ty, pos, af, g⟩ e s K = (K (ev e x) s) := (rfl)
theorem opW_pick {P : Program} {d : Option Nat} {ty : TypeId} {pos : String} {af : Array Edge} {g : Option (Nat × Bool)} {e : Nat → V} {s : List Obj} {K : V → List Obj → Prop} {c a b : Operand} : opWp P ⟨d, .pick c a b, ty, pos, af, g⟩ e s K = (condK (ev e c) (K (ev e a)) (K (ev e b)) s) := (rfl)
theorem opW_alloc {P : Program} {d : Option Nat} {ty : TypeId} {pos : String} {af : Array Edge} {g : Option (Nat × Bool)} {e : Nat → V} {s : List Obj} {K : V → List Obj → Prop} {t : TypeId} : opWp P ⟨d, .alloc t, ty, pos, af, g⟩ e s K = (allocWp P t s K) := (rfl)
theorem opW_box {P : Program} {d : Option Nat} {ty : TypeId} {pos : String} {af : Array Edge} {g : Option (Nat × Bool)} {e : Nat → V} {s : List Obj} {K : V → List Obj → Prop} {t : TypeId} {x : Operand} : opWp P ⟨d, .box t x, ty, pos, af, g⟩ e s K = (boxWp s (ev e x) K) := (rfl)
theorem opW_build {P : Program} {d : Option Nat} {ty : TypeId} {pos : String} {af : Array Edge} {g : Option (Nat × Bool)} {e : Nat → V} {s : List Obj} {K : V → List Obj → Prop} {t : TypeId} {parts : Array (Nat × Operand)} : opWp P ⟨d, .build t parts, ty, pos, af, g⟩ e s K = (buildWp P t (parts.toList.map fun p => (p.1, ev e p.2)) (atS K s)) := (rfl)
theorem opW_buildSlice {P : Program} {d : Option Nat} {ty : TypeId} {pos : String} {af : Array Edge} {g : Option (Nat × Bool)} {e : Nat → V} {s : List Obj} {K : V → List Obj → Prop} {t : TypeId} {n : Nat} {parts : Array (Nat × Operand)} : opWp P ⟨d, .buildSlice t n parts, ty, pos, af, g⟩ e s K = (buildSliceWp P t n (parts.toList.map fun p => (p.1, ev e p.2)) s K) := (rfl)
theorem opW_load {P : Program} {d : Option Nat} {ty : TypeId} {pos : String} {af : Array Edge} {g : Option (Nat × Bool)} {e : Nat → V} {s : List Obj} {K : V → List Obj → Prop} {t : TypeId} {a : Operand} : opWp P ⟨d, .load t a, ty, pos, af, g⟩ e s K = (loadWp P t s (ev e a) (atS K s)) := (rfl)
theorem opW_store {P : Program} {d : Option Nat} {ty : TypeId} {pos : String} {af : Array Edge} {g : Option (Nat × Bool)} {e : Nat → V} {s : List Obj} {K : V → List Obj → Prop} {t : TypeId} {a x : Operand} : opWp P ⟨d, .store t a x, ty, pos, af, g⟩ e s K = (storeWp P t s (ev e a) (ev e x) (unS K)) := (rfl)
theorem opW_nil {P : Program} {d : Option Nat} {ty : TypeId} {pos : String} {af : Array Edge} {g : Option (Nat × Bool)} {e : Nat → V} {s : List Obj} {K : V → List Obj → Prop} {x : Operand} : opWp P ⟨d, .nilCheck x, ty, pos, af, g⟩ e s K = (nilWp s (ev e x) (atS K s)) := (rfl)
theorem opW_binT {P : Program} {d : Option Nat} {ty : TypeId} {pos : String} {af : Array Edge} {g : Option (Nat × Bool)} {e : Nat → V} {s : List Obj} {K : V → List Obj → Prop} {op : BinOp} {t t' : TypeId} {x : Operand} {y : Nat} : opWp P ⟨d, .binOp op t x (.tmp y) t', ty, pos, af, g⟩ e s K = (binWp P op t s (ev e x) (ev e (.tmp y)) (atS K s)) := (rfl)
theorem opW_binI {P : Program} {d : Option Nat} {ty : TypeId} {pos : String} {af : Array Edge} {g : Option (Nat × Bool)} {e : Nat → V} {s : List Obj} {K : V → List Obj → Prop} {op : BinOp} {t t' : TypeId} {x : Operand} {k : IntKind} {y : Int} : opWp P ⟨d, .binOp op t x (.const (.int k y)) t', ty, pos, af, g⟩ e s K = (binWp P op t s (ev e x) (ev e (.const (.int k y))) (atS K s)) := (rfl)
theorem opW_binB {P : Program} {d : Option Nat} {ty : TypeId} {pos : String} {af : Array Edge} {g : Option (Nat × Bool)} {e : Nat → V} {s : List Obj} {K : V → List Obj → Prop} {op : BinOp} {t t' : TypeId} {x : Operand} {y : Bool} : opWp P ⟨d, .binOp op t x (.const (.bool y)) t', ty, pos, af, g⟩ e s K = (binWp P op t s (ev e x) (ev e (.const (.bool y))) (atS K s)) := (rfl)
theorem opW_binP {P : Program} {d : Option Nat} {ty : TypeId} {pos : String} {af : Array Edge} {g : Option (Nat × Bool)} {e : Nat → V} {s : List Obj} {K : V → List Obj → Prop} {op : BinOp} {t t' : TypeId} {x : Operand} {y : Option Addr} : opWp P ⟨d, .binOp op t x (.const (.pointer y)) t', ty, pos, af, g⟩ e s K = (binWp P op t s (ev e x) (ev e (.const (.pointer y))) (atS K s)) := (rfl)
theorem opW_binS {P : Program} {d : Option Nat} {ty : TypeId} {pos : String} {af : Array Edge} {g : Option (Nat × Bool)} {e : Nat → V} {s : List Obj} {K : V → List Obj → Prop} {op : BinOp} {t t' : TypeId} {x : Operand} {y : _} : opWp P ⟨d, .binOp op t x (.const (.string y)) t', ty, pos, af, g⟩ e s K = (binWp P op t s (ev e x) (ev e (.const (.string y))) (atS K s)) := (rfl)
theorem opW_binN {P : Program} {d : Option Nat} {ty : TypeId} {pos : String} {af : Array Edge} {g : Option (Nat × Bool)} {e : Nat → V} {s : List Obj} {K : V → List Obj → Prop} {op : BinOp} {t t' : TypeId} {x : Operand} : opWp P ⟨d, .binOp op t x (.const (.slice none 0 0)) t', ty, pos, af, g⟩ e s K = (nilSlWp P op t (ev e x) (atS K s)) := (rfl)
theorem opW_unop {P : Program} {d : Option Nat} {ty : TypeId} {pos : String} {af : Array Edge} {g : Option (Nat × Bool)} {e : Nat → V} {s : List Obj} {K : V → List Obj → Prop} {op : UnOp} {t : TypeId} {x : Operand} : opWp P ⟨d, .unOp op t x, ty, pos, af, g⟩ e s K = (unWp op (ev e x) (atS K s)) := (rfl)
theorem opW_convert {P : Program} {d : Option Nat} {ty : TypeId} {pos : String} {af : Array Edge} {g : Option (Nat × Bool)} {e : Nat → V} {s : List Obj} {K : V → List Obj → Prop} {a b : TypeId} {x : Operand} : opWp P ⟨d, .convert a b x, ty, pos, af, g⟩ e s K = (convWp P a b (ev e x) (atS K s)) := (rfl)
theorem opW_makeFunc {P : Program} {d : Option Nat} {ty : TypeId} {pos : String} {af : Array Edge} {g : Option (Nat × Bool)} {e : Nat → V} {s : List Obj} {K : V → List Obj → Prop} {fn : Fn} {first caps : Array Operand} : opWp P ⟨d, .makeFunc fn first caps, ty, pos, af, g⟩ e s K = (K (.cl fn (first.toList.map (ev e)) (caps.toList.map (ev e))) s) := (rfl)
theorem opW_makeSlice {P : Program} {d : Option Nat} {ty : TypeId} {pos : String} {af : Array Edge} {g : Option (Nat × Bool)} {e : Nat → V} {s : List Obj} {K : V → List Obj → Prop} {t : TypeId} {l c : Operand} : opWp P ⟨d, .makeSlice t l c, ty, pos, af, g⟩ e s K = (makeSliceWp P t (ev e l) (ev e c) s K) := (rfl)
theorem opW_slice {P : Program} {d : Option Nat} {ty : TypeId} {pos : String} {af : Array Edge} {g : Option (Nat × Bool)} {e : Nat → V} {s : List Obj} {K : V → List Obj → Prop} {t : TypeId} {x : Operand} {lo hi mx : Option Operand} : opWp P ⟨d, .slice t x lo hi mx, ty, pos, af, g⟩ e s K = (sliceWp P t (ev e x) (lo.map (ev e)) (hi.map (ev e)) (mx.map (ev e)) s (atS K s)) := (rfl)
theorem opW_fieldAddr {P : Program} {d : Option Nat} {ty : TypeId} {pos : String} {af : Array Edge} {g : Option (Nat × Bool)} {e : Nat → V} {s : List Obj} {K : V → List Obj → Prop} {t : TypeId} {x : Operand} {f : Nat} : opWp P ⟨d, .fieldAddr t x f, ty, pos, af, g⟩ e s K = (fieldAddrWp P t s (ev e x) f (atS K s)) := (rfl)
theorem opW_field {P : Program} {d : Option Nat} {ty : TypeId} {pos : String} {af : Array Edge} {g : Option (Nat × Bool)} {e : Nat → V} {s : List Obj} {K : V → List Obj → Prop} {t : TypeId} {x : Operand} {f : Nat} : opWp P ⟨d, .field t x f, ty, pos, af, g⟩ e s K = (fieldWp P t (ev e x) f (atS K s)) := (rfl)
theorem opW_indexAddr {P : Program} {d : Option Nat} {ty : TypeId} {pos : String} {af : Array Edge} {g : Option (Nat × Bool)} {e : Nat → V} {s : List Obj} {K : V → List Obj → Prop} {t : TypeId} {x i : Operand} : opWp P ⟨d, .indexAddr t x i, ty, pos, af, g⟩ e s K = (indexAddrWp P t s (ev e x) (ev e i) (atS K s)) := (rfl)
theorem opW_index {P : Program} {d : Option Nat} {ty : TypeId} {pos : String} {af : Array Edge} {g : Option (Nat × Bool)} {e : Nat → V} {s : List Obj} {K : V → List Obj → Prop} {t : TypeId} {x i : Operand} : opWp P ⟨d, .index t x i, ty, pos, af, g⟩ e s K = (indexWp P t (ev e x) (ev e i) (atS K s)) := (rfl)
theorem opW_extract {P : Program} {d : Option Nat} {ty : TypeId} {pos : String} {af : Array Edge} {g : Option (Nat × Bool)} {e : Nat → V} {s : List Obj} {K : V → List Obj → Prop} {x : Operand} {i : Nat} : opWp P ⟨d, .extract x i, ty, pos, af, g⟩ e s K = (tupWp (ev e x) i (atS K s)) := (rfl)
theorem opW_call {P : Program} {d : Option Nat} {ty : TypeId} {pos : String} {af : Array Edge} {g : Option (Nat × Bool)} {e : Nat → V} {s : List Obj} {K : V → List Obj → Prop} {f : FuncId} {args : Array Operand} {tys : Array TypeId} : opWp P ⟨d, .call ⟨.value (.func f), args, tys⟩, ty, pos, af, g⟩ e s K = (callWp P f (args.toList.map (ev e)) s K) := (rfl)
theorem opW_callT {P : Program} {d : Option Nat} {ty : TypeId} {pos : String} {af : Array Edge} {g : Option (Nat × Bool)} {e : Nat → V} {s : List Obj} {K : V → List Obj → Prop} {f : Nat} {args : Array Operand} {tys : Array TypeId} : opWp P ⟨d, .call ⟨.value (.tmp f), args, tys⟩, ty, pos, af, g⟩ e s K = (callV P (e f) (args.toList.map (ev e)) s K) := (rfl)
theorem opW_len {P : Program} {d : Option Nat} {ty : TypeId} {pos : String} {af : Array Edge} {g : Option (Nat × Bool)} {e : Nat → V} {s : List Obj} {K : V → List Obj → Prop} {x : Operand} {t : TypeId} : opWp P ⟨d, .call ⟨.builtin .len, #[x], #[t]⟩, ty, pos, af, g⟩ e s K = (lenWp P t (ev e x) s (atS K s)) := (rfl)
theorem opW_append {P : Program} {d : Option Nat} {ty : TypeId} {pos : String} {af : Array Edge} {g : Option (Nat × Bool)} {e : Nat → V} {s : List Obj} {K : V → List Obj → Prop} {a x : Operand} {t t' : TypeId} : opWp P ⟨d, .call ⟨.builtin .append, #[a, x], #[t, t']⟩, ty, pos, af, g⟩ e s K = (t = t' ∧ appendWp P t (ev e a) (ev e x) s K) := (rfl)
theorem opW_min {P : Program} {d : Option Nat} {ty : TypeId} {pos : String} {af : Array Edge} {g : Option (Nat × Bool)} {e : Nat → V} {s : List Obj} {K : V → List Obj → Prop} {x y : Operand} {tys : Array TypeId} : opWp P ⟨d, .call ⟨.builtin .min, #[x, y], tys⟩, ty, pos, af, g⟩ e s K = (minmaxWp true (ev e x) [ev e y] (atS K s)) := (rfl)
theorem opW_max {P : Program} {d : Option Nat} {ty : TypeId} {pos : String} {af : Array Edge} {g : Option (Nat × Bool)} {e : Nat → V} {s : List Obj} {K : V → List Obj → Prop} {x y : Operand} {tys : Array TypeId} : opWp P ⟨d, .call ⟨.builtin .max, #[x, y], tys⟩, ty, pos, af, g⟩ e s K = (minmaxWp false (ev e x) [ev e y] (atS K s)) := (rfl)

theorem cellsV_ag {cs : List V} : cellsV (.ag cs) = some cs := (rfl)
theorem cellsV_d {x : D} : cellsV (.d x) = some [.d x] := (rfl)
theorem cellsV_fu {els : List (List D)} : cellsV (.fu els) = some [.fu els] := (rfl)
theorem cellsV_so {id g lo n : Nat} : cellsV (.so id g lo n) = some [.so id g lo n] := (rfl)
theorem cellsV_rf {id g i off : Nat} : cellsV (.rf id g i off) = some [.rf id g i off] := (rfl)
theorem cellsV_cl {fn : Fn} {a b : List V} : cellsV (.cl fn a b) = some [.cl fn a b] := (rfl)

end Go.VL
