/- The V-logic, part 15: the operations yield one value; the run in the order of the text, told by what is to hold behind it. -/
import Derived.Test.YtafbdphblilenaaVn
namespace Go.VL

/-- Whatever holds of what X yields holds of one thing that it yields. -/
def Det1 (X : (V → Prop) → Prop) : Prop := ∀ K, X K → ∃ v, X (fun v' => v' = v) ∧ K v

def Det2 (X : (V → List Obj → Prop) → Prop) : Prop := ∀ K, X K → ∃ v s, X (fun v' s' => v' = v ∧ s' = s) ∧ K v s

theorem mkVWp_det {agg n cs} : Det1 (mkVWp agg n cs) := by
  intro K h
  unfold mkVWp at *
  cases agg with
  | true => exact ⟨_, ⟨h.1, rfl⟩, h.2⟩
  | false =>
    cases cs with
    | nil => exact h.2.elim
    | cons v l => exact ⟨v, ⟨h.1, rfl⟩, h.2⟩

theorem atG_det {s id g} {F : Obj → (V → Prop) → Prop} (hF : ∀ o, Det1 (F o)) : Det1 fun K => atG s id g fun o => F o K := by
  intro K h
  unfold atG at *
  cases hs : s[id]? with
  | none => rw [hs] at h; exact h.elim
  | some o =>
    simp only [hs] at h ⊢
    obtain ⟨v, h1, h2⟩ := hF o K h.2
    exact ⟨v, ⟨h.1, h1⟩, h2⟩

theorem atG_det2 {s id g} {F : Obj → (V → List Obj → Prop) → Prop} (hF : ∀ o, Det2 (F o)) : Det2 fun K => atG s id g fun o => F o K := by
  intro K h
  unfold atG at *
  cases hs : s[id]? with
  | none => rw [hs] at h; exact h.elim
  | some o =>
    simp only [hs] at h ⊢
    obtain ⟨v, s1, h1, h2⟩ := hF o K h.2
    exact ⟨v, s1, ⟨h.1, h1⟩, h2⟩

theorem det_pure {v : V} : Det1 fun K => K v := fun _ h => ⟨v, rfl, h⟩
theorem det_false : Det1 fun _ => False := fun _ h => h.elim
theorem det_and {c : Prop} {X : (V → Prop) → Prop} (h : Det1 X) : Det1 fun K => c ∧ X K := fun K hk =>
  let ⟨v, h1, h2⟩ := h K hk.2
  ⟨v, ⟨hk.1, h1⟩, h2⟩
theorem det2_pure {v : V} {s : List Obj} : Det2 fun K => K v s := fun _ h => ⟨v, s, ⟨rfl, rfl⟩, h⟩
theorem det2_false : Det2 fun _ => False := fun _ h => h.elim
theorem det2_and {c : Prop} {X : (V → List Obj → Prop) → Prop} (h : Det2 X) : Det2 fun K => c ∧ X K := fun K hk =>
  let ⟨v, s, h1, h2⟩ := h K hk.2
  ⟨v, s, ⟨hk.1, h1⟩, h2⟩
theorem det2_of {X : (V → Prop) → Prop} {s : List Obj} (h : Det1 X) : Det2 fun K => X fun v => K v s := by
  intro K hk
  obtain ⟨v, h1, h2⟩ := h _ hk
  refine ⟨v, s, ?_, h2⟩
  simpa using h1

theorem loadWp_det {P t s p} : Det1 (loadWp P t s p) := by
  unfold loadWp
  cases tyI P t with
  | none => exact det_false
  | some i =>
    simp only
    cases p with
    | d x =>
      cases x with
      | el cs => exact mkVWp_det
      | _ => exact det_false
    | rf id g k off =>
      simp only
      cases s[id]? with
      | none => exact det_false
      | some o =>
        simp only
        cases o.els[k]? with
        | none => exact det_and det_false
        | some cs => exact det_and mkVWp_det
    | _ => exact det_false

theorem fieldAddrWp_det {P t s p f} : Det1 (fieldAddrWp P t s p f) := by
  unfold fieldAddrWp
  cases fOff P t f with
  | none => exact det_false
  | some i =>
    simp only
    cases p with
    | d x =>
      cases x with
      | el cs => exact det_pure
      | _ => exact det_false
    | rf id g k off => exact atG_det fun _ => det_pure
    | _ => exact det_false

theorem elP_det {els i z} : Det1 (elP els i z) := by
  unfold elP
  cases els[i]? with
  | none => exact det_false
  | some cs => exact det_and det_pure

theorem indexAddrWp_det {P t s x i} : Det1 (indexAddrWp P t s x i) := by
  unfold indexAddrWp
  split
  · split
    · split
      · exact det_and (det_and elP_det)
      · exact det_and (det_and elP_det)
      · exact atG_det fun _ => det_and (det_and (det_and det_pure))
      · exact det_false
    · split
      · split
        · exact det_and (det_and det_pure)
        · exact atG_det fun _ => det_and (det_and det_pure)
        · exact det_false
      · exact det_false
  · exact det_false

theorem partWp_det {P t cs off} : Det1 (partWp P t cs off) := by
  unfold partWp
  cases tyI P t with
  | none => exact det_false
  | some i =>
    simp only
    cases i.agg with
    | true => exact det_and det_pure
    | false =>
      simp only
      cases cs[off]? with
      | none => exact det_false
      | some v => exact det_pure

theorem fieldWp_det {P t x f} : Det1 (fieldWp P t x f) := by
  unfold fieldWp
  split
  · split
    · split
      · exact partWp_det
      · exact det_false
    · exact det_false
  · exact det_false

theorem indexWp_det {P t x i} : Det1 (indexWp P t x i) := by
  unfold indexWp
  split
  · split
    · split
      · split
        · exact det_and (det_and partWp_det)
        · exact det_false
      · exact det_false
    · exact det_false
  · exact det_false

theorem buildWp_det {P t parts} : Det1 (buildWp P t parts) := by
  unfold buildWp
  split
  · exact det_false
  · split
    · split
      · exact det_pure
      · exact det_false
    · split
      · split
        · exact det_pure
        · exact det_false
      · exact det_false

theorem allocWp_det {P t s} : Det2 (allocWp P t s) := by
  unfold allocWp
  split
  · exact det2_false
  · exact det2_pure

theorem boxWp_det {s x} : Det2 (boxWp s x) := by
  unfold boxWp
  split
  · exact det2_false
  · exact det2_pure

theorem buildSliceWp_det {P t len parts s} : Det2 (buildSliceWp P t len parts s) := by
  unfold buildSliceWp
  split
  · exact det2_false
  · refine det2_and ?_
    split
    · exact det2_false
    · split
      · exact det2_pure
      · exact det2_pure

theorem makeSliceWp_det {P t l c s} : Det2 (makeSliceWp P t l c s) := by
  unfold makeSliceWp
  split
  · exact det2_false
  · split
    · exact det2_and det2_pure
    · exact det2_false

theorem appendWp_det {P t a x s} : Det2 (appendWp P t a x s) := by
  unfold appendWp
  split
  · exact det2_false
  · split
    · exact det2_false
    · refine det2_and ?_
      split
      · split
        · exact det2_and det2_pure
        · exact det2_and det2_pure
      · exact atG_det2 fun _ => det2_and det2_pure
      · exact det2_false

theorem sliceWp_det {P t x lo hi mx s} : Det1 (sliceWp P t x lo hi mx s) := by
  unfold sliceWp
  split
  · exact det_false
  · split
    · exact det_false
    · split
      · refine det_and ?_
        split
        · exact det_and det_pure
        · exact det_and det_pure
        · exact det_and (det_and (det_and det_pure))
        · exact atG_det fun _ => det_and det_pure
        · exact det_false
      · exact det_false

theorem lenWp_det {P t x s} : Det1 (lenWp P t x s) := by
  unfold lenWp
  split
  · split
    · exact det_pure
    · exact det_pure
    · exact atG_det fun _ => det_pure
    · exact det_false
  · split
    · exact det_pure
    · exact det_false
  · exact det_false

theorem intWp_det {op k a b} : Det1 (intWp op k a b) := by
  unfold intWp
  split <;> first | exact det_pure | exact det_and det_pure | exact det_false | (split <;> first | exact det_pure | exact det_and det_pure | exact det_false)

theorem binWp_det {P op t s x y} : Det1 (binWp P op t s x y) := by
  unfold binWp
  split <;> first | exact det_and intWp_det | exact det_false | (refine det_and ?_; split <;> first | exact det_pure | exact det_false) | (refine det_and (det_and ?_); split <;> first | exact det_pure | exact det_false) | (split <;> first | exact det_pure | exact det_false)

theorem nilSlWp_det {P op t x} : Det1 (nilSlWp P op t x) := by
  unfold nilSlWp
  refine det_and (det_and ?_)
  split <;> first | exact det_pure | exact det_false

theorem unWp_det {op x} : Det1 (unWp op x) := by
  unfold unWp
  split <;> first | exact det_pure | exact det_false

theorem convWp_det {P a b x} : Det1 (convWp P a b x) := by
  unfold convWp
  split
  · split <;> first | exact det_pure | exact det_false
  · exact det_false

theorem minmaxWp_det {mn} : ∀ (ys : List V) (acc : V), Det1 (minmaxWp mn acc ys)
  | [], acc => det_pure
  | y :: ys, acc => by
    intro K h
    unfold minmaxWp at h
    split at h
    · obtain ⟨v, h1, h2⟩ := minmaxWp_det ys _ K h
      exact ⟨v, by unfold minmaxWp; exact h1, h2⟩
    · exact h.elim

theorem nilWp_det {s x} : Det1 (nilWp s x) := by
  unfold nilWp
  split
  · exact det_pure
  · exact atG_det fun _ => det_pure
  · exact det_pure
  · exact det_false

theorem tupWp_det {x i} : Det1 (tupWp x i) := by
  unfold tupWp
  split
  · split
    · exact det_pure
    · exact det_false
  · exact det_false

theorem boolWp_det2 {x a b s} : Det2 fun K => boolWp x (K a s) (K b s) := by
  unfold boolWp
  split
  · rename_i b' 
    cases b' with
    | true => intro K h; exact ⟨a, s, by simp, h.1 rfl⟩
    | false => intro K h; exact ⟨b, s, by simp, h.2 rfl⟩
  · exact det2_false

theorem storeWp_det {P t s p x} : Det2 fun K => storeWp P t s p x fun s' => K .un s' := by
  unfold storeWp
  split
  · exact det2_false
  · split
    · split
      · exact det2_false
      · refine det2_and (det2_and ?_)
        split
        · exact det2_false
        · split
          · exact det2_false
          · exact det2_and (det2_and det2_pure)
    · exact det2_false

/-- A call of a function. -/
def fnCall (o : Oper) : Bool :=
  match o.op with
  | .call c => match c.callee with
    | .value _ => true
    | _ => false
  | _ => false

theorem op_det {P o e s} (hc : fnCall o = false) : Det2 (opWp P o e s) := by
  obtain ⟨dst, op, ty, pos, after, guard⟩ := o
  unfold opWp
  cases op <;> simp only
  case move => exact det2_pure
  case assign => exact det2_pure
  case pick => exact boolWp_det2
  case alloc => exact allocWp_det
  case box => exact boxWp_det
  case build => exact det2_of buildWp_det
  case buildSlice => exact buildSliceWp_det
  case load => exact det2_of loadWp_det
  case store => exact storeWp_det
  case nilCheck => exact det2_of nilWp_det
  case binOp op t x y t' =>
    cases nilC y with
    | true => exact det2_of nilSlWp_det
    | false => exact det2_of binWp_det
  case unOp => exact det2_of unWp_det
  case convert => exact det2_of convWp_det
  case makeFunc => exact det2_pure
  case makeSlice => exact makeSliceWp_det
  case slice => exact det2_of sliceWp_det
  case fieldAddr => exact det2_of fieldAddrWp_det
  case field => exact det2_of fieldWp_det
  case indexAddr => exact det2_of indexAddrWp_det
  case index => exact det2_of indexWp_det
  case extract => exact det2_of tupWp_det
  case call c =>
    unfold callOpWp
    simp only [fnCall] at hc
    split
    · rename_i h; rw [h] at hc; cases hc
    · rename_i h; rw [h] at hc; cases hc
    · split
      · exact det2_of lenWp_det
      · exact det2_and appendWp_det
      · exact det2_of (minmaxWp_det _ _)
      · exact det2_of (minmaxWp_det _ _)
      · exact det2_false
    · exact det2_false
  all_goals exact det2_false


/-! ### What an operation reads of the objects -/

def vIds : V → List Nat
  | .rf id _ _ _ => [id]
  | .so id _ _ _ => [id]
  | _ => []

def opReads (e : Env) (o : Oper) : List Nat :=
  match o.op with
  | .move _ | .assign _ | .pick .. | .build .. | .buildSlice .. | .makeFunc .. => []
  | _ => o.op.operands.toList.flatMap fun x => vIds (ev e x)

/-- The operations that leave the objects as they are. -/
def roOp (o : Oper) : Bool :=
  match o.op with
  | .move _ | .assign _ | .pick .. | .build .. | .buildSlice .. | .load .. | .nilCheck _ | .binOp .. | .unOp .. | .convert .. | .makeFunc .. | .slice .. | .fieldAddr .. | .field .. | .indexAddr .. | .index .. | .extract .. => true
  | .call c => match c.callee with
    | .builtin .len => true
    | .builtin .min => true
    | .builtin .max => true
    | _ => false
  | _ => false

section
variable {P : Program} {s s' : List Obj}

theorem atG_agree {id g : Nat} (h : s'[id]? = s[id]?) (K : Obj → Prop) : atG s id g K = atG s' id g K := by
  unfold atG; rw [h]

theorem loadWp_agree {t : TypeId} {p : V} (h : ∀ id ∈ vIds p, s'[id]? = s[id]?) (K : V → Prop) : loadWp P t s p K = loadWp P t s' p K := by
  unfold loadWp
  cases tyI P t with
  | none => rfl
  | some i =>
    cases p with
    | rf id g k off => simp only [h id (by simp [vIds])]
    | d x => cases x <;> rfl
    | _ => rfl

theorem fieldAddrWp_agree {t : TypeId} {p : V} {f : Nat} (h : ∀ id ∈ vIds p, s'[id]? = s[id]?) (K : V → Prop) : fieldAddrWp P t s p f K = fieldAddrWp P t s' p f K := by
  unfold fieldAddrWp
  cases fOff P t f with
  | none => rfl
  | some d =>
    cases p with
    | rf id g k off => simp only [atG_agree (h id (by simp [vIds]))]
    | d x => cases x <;> rfl
    | _ => rfl

theorem indexAddrWp_agree {t : TypeId} {p i : V} (h : ∀ id ∈ vIds p, s'[id]? = s[id]?) (K : V → Prop) : indexAddrWp P t s p i K = indexAddrWp P t s' p i K := by
  unfold indexAddrWp
  split
  · split
    · cases p with
      | so id g lo n => simp only [atG_agree (h id (by simp [vIds]))]
      | d x => cases x <;> rfl
      | _ => rfl
    · split
      · cases p with
        | rf id g k off => simp only [atG_agree (h id (by simp [vIds]))]
        | d x => cases x <;> rfl
        | _ => rfl
      · rfl
  · rfl

theorem lenWp_agree {t : TypeId} {p : V} (h : ∀ id ∈ vIds p, s'[id]? = s[id]?) (K : V → Prop) : lenWp P t p s K = lenWp P t p s' K := by
  unfold lenWp
  split
  · cases p with
    | so id g lo n => simp only [atG_agree (h id (by simp [vIds]))]
    | d x => cases x <;> rfl
    | _ => rfl
  · rfl
  · rfl

theorem nilWp_agree {p : V} (h : ∀ id ∈ vIds p, s'[id]? = s[id]?) (K : V → Prop) : nilWp s p K = nilWp s' p K := by
  cases p with
  | rf id g k off => simp only [nilWp, atG_agree (h id (by simp [vIds]))]
  | d x => cases x <;> rfl
  | cl f a b => cases f <;> rfl
  | _ => rfl

theorem elsV_agree {p : V} (h : ∀ id ∈ vIds p, s'[id]? = s[id]?) : elsV s p = elsV s' p := by
  unfold elsV
  cases p with
  | so id g lo n => simp only [h id (by simp [vIds])]
  | d x => cases x <;> rfl
  | _ => rfl

theorem sliceWp_agree {t : TypeId} {p : V} {lo hi mx : Option V} (h : ∀ id ∈ vIds p, s'[id]? = s[id]?) (K : V → Prop) : sliceWp P t p lo hi mx s K = sliceWp P t p lo hi mx s' K := by
  unfold sliceWp
  rw [elsV_agree h]
  split
  · rfl
  · split
    · rfl
    · split
      · congr 1
        cases mx with
        | none =>
          cases p with
          | so id g lo n => simp only [atG_agree (h id (by simp [vIds]))]
          | d x => cases x <;> rfl
          | _ => rfl
        | some m =>
          cases p with
          | d x => cases x <;> rfl
          | _ => rfl
      · rfl

theorem isPtr_agree {p : V} (h : ∀ id ∈ vIds p, s'[id]? = s[id]?) : isPtr s p = isPtr s' p := by
  unfold isPtr
  cases p with
  | rf id g k off => simp only [atG_agree (h id (by simp [vIds]))]
  | d x => cases x <;> rfl
  | _ => rfl

theorem binWp_agree {op : BinOp} {t : TypeId} {x y : V} (h : ∀ id ∈ vIds x, s'[id]? = s[id]?) (h' : ∀ id ∈ vIds y, s'[id]? = s[id]?) (K : V → Prop) : binWp P op t s x y K = binWp P op t s' x y K := by
  unfold binWp
  split <;> simp only [isPtr_agree h, isPtr_agree h']

theorem ro_agree {o : Oper} {e : Env} {v : V} (hr : roOp o = true) (h : ∀ id ∈ opReads e o, s'[id]? = s[id]?) (hw : opWp P o e s fun v' s1 => v' = v ∧ s1 = s) : opWp P o e s' fun v' s1 => v' = v ∧ s1 = s' := by
  obtain ⟨dst, op, ty, pos, after, guard⟩ := o
  have rd : (opReads e ⟨dst, op, ty, pos, after, guard⟩ = op.operands.toList.flatMap fun x => vIds (ev e x)) → ∀ x ∈ op.operands.toList, ∀ id ∈ vIds (ev e x), s'[id]? = s[id]? := fun he x hx id hid => h id (by rw [he]; exact List.mem_flatMap.2 ⟨x, hx, hid⟩)
  unfold opWp at hw ⊢
  cases op <;> simp only [roOp, Bool.false_eq_true] at hr <;> simp only at hw ⊢
  case move => exact hw
  case assign => exact hw
  case pick => simpa using hw
  case build => exact hw
  case buildSlice =>
    unfold buildSliceWp at hw ⊢
    split at hw
    · exact hw.elim
    · refine ⟨hw.1, ?_⟩
      have hw := hw.2
      split at hw
      · exact hw.elim
      · split at hw
        · exact ⟨hw.1, rfl⟩
        · exact absurd (congrArg List.length hw.2) (by simp)
  case load t a => rw [loadWp_agree (rd rfl a (by simp [Op.operands]))] at hw; exact hw
  case nilCheck a => rw [nilWp_agree (rd rfl a (by simp [Op.operands]))] at hw; exact hw
  case binOp op t x y t' =>
    cases hn : nilC y with
    | true => rw [hn] at hw; simpa using hw
    | false => rw [hn] at hw; simp only [cond_false] at hw ⊢; rw [binWp_agree (rd rfl x (by simp [Op.operands])) (rd rfl y (by simp [Op.operands]))] at hw; exact hw
  case unOp => exact hw
  case convert => exact hw
  case makeFunc => exact hw
  case slice t x lo hi mx => rw [sliceWp_agree (rd rfl x (by simp [Op.operands]))] at hw; exact hw
  case fieldAddr t x f => rw [fieldAddrWp_agree (rd rfl x (by simp [Op.operands]))] at hw; exact hw
  case field => exact hw
  case indexAddr t x i => rw [indexAddrWp_agree (rd rfl x (by simp [Op.operands]))] at hw; exact hw
  case index => exact hw
  case extract => exact hw
  case call c =>
    obtain ⟨callee, args, argTypes⟩ := c
    cases callee with
    | value f => cases hr
    | invoke r m => cases hr
    | builtin b =>
      unfold callOpWp at hw ⊢
      simp only at hw ⊢ hr
      split at hw
      · rename_i x t ha ht
        rw [lenWp_agree (rd rfl x (by simp [Op.operands, Call.operands, ha]))] at hw
        exact hw
      · cases hr
      · exact hw
      · exact hw
      · exact hw.elim
end

end Go.VL
