/- A part of the proof (G21 G22 G23 G24). -/
import Derived.Test.YtilapneoohcplaaBO2
import Derived.Test.YtilapneoohcplaaBO22
set_option linter.unusedSimpArgs false
set_option linter.unusedVariables false
set_option maxRecDepth 100000
set_option maxHeartbeats 80000000
namespace Go.Proofs.Ytilapneoohcplaa
open Go.VL Go.Proofs.Try
inductive BRef where
 | nil
 | root
 | el (re : Re)
def BRef.d (b a : Nat) : BRef → D
 | .nil => .sc (.pointer none)
 | .root => .sc (.pointer (some ⟨b, a, none⟩))
 | .el re => .el re.cells
inductive BGoal where
 | nil
 | mk (kind : Int) (re : BRef) (n at_ : Int) (next : BGoal)
def BGoal.d (b a : Nat) : BGoal → D
 | .nil => .sc (.pointer none)
 | .mk kind re n at_ next => .el [iD kind, re.d b a, iD n, iD at_, next.d b a]
theorem match_ok (b a : Nat) (r : BRef) (next : BGoal) : PureOK prog 36 [.d (r.d b a), .d (next.d b a)] (.d ((BGoal.mk 0 r 0 0 next).d b a)) := by
 refine fn_ok func36 rfl ntmps36 results36 rfl 0 19 (by simp) (by simp) ?_
 simp only [zX, simprocAttr, BGoal.d, iD]
structure BPlace where
 at_ : Int
 caps : CapsL
 todo : BGoal
def BPlace.cells (b a : Nat) (p : BPlace) : List D := [iD p.at_, capD p.caps, p.todo.d b a]
def BPlace.zero : BPlace := ⟨0, [], .nil⟩
def stV (b a : Nat) : Option BPlace → List V
 | some p => (p.cells b a).map V.d
 | none => [.d (.sc (.int .i64 0)), .fu [], .d (.sc (.pointer none))]
structure Mst where
 p : Pat
 t : List Int
 ownText : Bool
 own : List Int
 ogen : Nat
 stk : List (Option BPlace)
 top : Nat
 gen : Nat
 deepest : Int
 start : Int
 steps : Int
 fuel : Int
 spent : Bool
 ready : Bool
def Mst.text (m : Mst) : V := if m.ownText = true then .so 2 m.ogen 0 m.t.length else .d (intsD m.t)
def Mst.objsT (g b a : Nat) (m : Mst) (T : V) : List VL.Obj :=
 [⟨g, true, 19, [[.d (iD m.p.re.op), .d (.sl (m.p.re.set.map spanC)), .d (.sl (m.p.re.kids.map Re.cells)), .d (iD m.p.re.mn), .d (iD m.p.re.mx), .d (iD m.p.re.mode), .d (iD m.p.re.n), .d (bD m.p.re.neg), i64 m.p.caps, bV m.p.runes, T, .so 2 m.ogen 0 m.own.length, .so 1 m.gen 0 m.top, i64 m.deepest, i64 m.start, i64 m.steps, i64 m.fuel, bV m.spent, bV m.ready]]⟩,
  ⟨m.gen, true, 3, m.stk.map (stV b a)⟩, ⟨m.ogen, true, 1, m.own.map fun x => [.d (iD x)]⟩]
def Mst.objs (g b a : Nat) (m : Mst) : List VL.Obj := m.objsT g b a m.text
theorem objs_d {g b a : Nat} {m : Mst} (h : m.ownText = false) : m.objs g b a = m.objsT g b a (.d (intsD m.t)) := by
 unfold Mst.objs Mst.text; rw [if_neg (by rw [h]; exact Bool.false_ne_true)]
theorem objs_so {g b a : Nat} {m : Mst} (h : m.ownText = true) : m.objs g b a = m.objsT g b a (.so 2 m.ogen 0 m.t.length) := by
 unfold Mst.objs Mst.text; rw [if_pos h]
def Mst.step (m : Mst) : Mst := if m.steps < m.fuel then { m with steps := m.steps + 1 } else { m with spent := true }
theorem capsMap' (l : List (Option BPlace)) (b a n : Nat) : ((l.map (stV b a)).all fun e => e.all (refsV n)) = true := by
 rw [List.all_eq_true]
 intro e he
 obtain ⟨p, _, rfl⟩ := List.mem_map.1 he
 cases p <;> rfl
theorem mtext_refs (m : Mst) : refsV 3 m.text = true := by
 unfold Mst.text
 split <;> rfl
theorem mobjsT_ok (m : Mst) (b a : Nat) (T : V) (h : refsV 3 T = true) : (refsV 3 T && (((m.stk.map (stV b a)).all fun e => e.all (refsV 3)) && (m.own.map fun x => [V.d (D.sc (.int .i64 x))]).all fun e => e.all (refsV 3))) = true := by
 rw [h, capsMap']
 exact allD m.own iD 3
theorem objsT_ok (g b a : Nat) (m : Mst) (T : V) (n : Nat) (hn : 3 ≤ n) (h : refsV n T = true) : (m.objsT g b a T).all (objOk n) = true := by
 unfold Mst.objsT
 simp only [List.all_cons, List.all_nil, Bool.and_true, objOk, List.cons_append, List.nil_append, List.map_cons, List.map_nil, h, i64, bV, capsMap', iD, bD, allD]
 simp [refsV]
 omega
theorem mobjs_ok (m : Mst) (b a : Nat) : (refsV 3 m.text && (((m.stk.map (stV b a)).all fun e => e.all (refsV 3)) && (m.own.map fun x => [V.d (D.sc (.int .i64 x))]).all fun e => e.all (refsV 3))) = true := by
 rw [mtext_refs, capsMap']
 exact allD m.own iD 3
theorem mstep_ok (g b a : Nat) (m : Mst) (h0 : 0 ≤ m.steps) (h1 : m.steps ≤ 10000000000000) :
  callWp prog 83 [.pp 0 g 0 0 b a] (m.objs g b a) fun v s => v = bV (decide (m.steps < m.fuel)) ∧ s = m.step.objs g b a := by
 have w1 : IntKind.i64.wrap (m.steps + 1) = m.steps + 1 := w64 _ (by omega)
 unfold Mst.objs Mst.objsT
 generalize hT : m.text = T
 by_cases c : m.steps < m.fuel
 ·have hge : ¬ m.fuel ≤ m.steps := by omega
  have hs : m.step = { m with steps := m.steps + 1 } := by rw [Mst.step, if_pos c]
  rw [hs]
  refine fn_ok func83 rfl ntmps83 results83 rfl 3 5 (by simp) (by simp) ?_
  simp only [zX, simprocAttr, i64, bV, w1, Re.cells_eq, iD, bD]
  refine draw_c mix [] [] (by rfl) ?_
  simp only [zX, simprocAttr, i64, bV, w1, c, hge, Re.cells_eq, iD, bD]
  subst hT
  exact ⟨mobjs_ok m b a, rfl⟩
 ·have hge : m.fuel ≤ m.steps := by omega
  have hs : m.step = { m with spent := true } := by rw [Mst.step, if_neg c]
  rw [hs]
  refine fn_ok func83 rfl ntmps83 results83 rfl 3 5 (by simp) (by simp) ?_
  simp only [zX, simprocAttr, i64, bV, w1, Re.cells_eq, iD, bD]
  refine draw_c mix [] [] (by rfl) ?_
  simp only [zX, simprocAttr, i64, bV, w1, c, hge, Re.cells_eq, iD, bD]
  subst hT
  exact ⟨mobjs_ok m b a, rfl⟩
abbrev Rs := Mst × BPlace × Bool
def Mst.lit (m : Mst) : BRef → Option Re
 | .nil => none
 | .root => some m.p.re
 | .el re => some re
def Mst.push (m : Mst) (p : BPlace) : Mst := { m with stk := m.stk.take m.top ++ [some p], top := m.top + 1, gen := m.gen + 1, deepest := max m.deepest ((m.top + 1 : Nat) : Int) }
def Mst.clear (m : Mst) (base : Nat) : Mst := { m with stk := m.stk.take base ++ (List.replicate (m.top - base) none ++ m.stk.drop m.top), top := base }
def Mst.pop (m : Mst) : Mst := { m with stk := m.stk.set (m.top - 1) none, top := m.top - 1 }
def fro (p : BPlace) (kind : Int) (re : BRef) (n at_ : Int) : BPlace := { p with todo := .mk kind re n at_ p.todo }
def BPlace.goals (p : BPlace) : Bool := match p.todo with
 | .nil => false
 | .mk _ _ _ _ _ => true
def pushB (kids : List Re) (next : BGoal) : BGoal := kids.foldr (fun k nx => .mk 0 (.el k) 0 0 nx) next
def Mst.same (m : Mst) : Prop := m.ownText = true → m.own = m.t
instance (m : Mst) : Decidable m.same := by unfold Mst.same; infer_instance
def setR (t : List Int) (re : Re) (p : BPlace) : BPlace × Bool :=
 if p.at_ < t.length ∧ inB re.set (tAt t p.at_) = true then ({ p with at_ := p.at_ + 1 }, true) else (.zero, false)
def refR (t : List Int) (re : Re) (p : BPlace) : Option (BPlace × Bool) :=
 if re.n < 1 ∨ (p.caps.length : Int) < re.n then none else
 let x := p.caps.getD (re.n - 1).toNat (-1, -1)
 if x.1 < -1000000 ∨ x.2 < -1000000 ∨ 1000000 < x.1 ∨ 1000000 < x.2 then none
 else if x.1 < 0 ∨ (t.length : Int) - p.at_ < x.2 - x.1 then some (.zero, false)
 else if x.2 < x.1 ∨ (t.length : Int) < x.2 then none
 else if sameR t x.1 p.at_ (x.2 - x.1).toNat = true then some ({ p with at_ := p.at_ + (x.2 - x.1) }, true) else some (.zero, false)
abbrev Rec := Mst → Nat → BPlace → Option Rs
def firstB (rec : Rec) (m : Mst) (p : BPlace) : Option Rs := match rec m m.top p with
 | none => none
 | some (m', p', found) => if m'.top < m.top ∨ m'.stk.length < m'.top then none else some (m'.clear m.top, p', found)
def aloneB (rec : Rec) (m : Mst) (p : BPlace) (part : BGoal) : Option Rs := match firstB rec m { p with todo := part } with
 | none => none
 | some (m', r, found) => some (m', { r with todo := p.todo }, found)
def lookB (f : Int → Mst → Option Rs) (neg : Bool) (p : BPlace) (last : Int) : Nat → Mst → Option Rs
 | 0, m => some (m, p, neg && !m.spent)
 | j + 1, m => if m.spent = true then some (m, p, neg && !m.spent) else match f (last + j) m with
  | none => none
  | some (m', r, found) => if found = true then (if neg = true then some (m', .zero, false) else some (m', { p with caps := r.caps }, true)) else lookB f neg p last j m'
def lookGoals (op : Int) (kid : Re) (at_ : Int) : BGoal := if op = 8 then .mk 0 (.el kid) 0 0 (.mk 5 .nil 0 at_ .nil) else .mk 0 (.el kid) 0 0 .nil
def behindB (rec : Rec) (m : Mst) (re : Re) (kid : Re) (p : BPlace) : Option Rs :=
 lookB (fun k m => firstB rec m { at_ := k, caps := p.caps, todo := lookGoals re.op kid p.at_ }) re.neg p (if re.op = 8 then 0 else p.at_) (if re.op = 8 then p.at_.toNat + 1 else 1) m
def beginB (rec : Rec) (m : Mst) (r : BRef) (p : BPlace) : Option Rs := match m.lit r with
 | none => none
 | some re =>
  if 1000000000 < re.set.length ∨ 1000000000 < re.kids.length then none
  else if re.op = 4 then (if re.mode = 2 then aloneB rec m p (.mk 2 r 0 0 .nil) else some (m, fro p 2 r 0 0, true))
  else if m.fuel ≤ m.steps then some (m.step, .zero, false)
  else
   let m := m.step
   if re.op = 1 then some (m, setR m.t re p)
   else if re.op = 2 then some (m, { p with todo := pushB re.kids p.todo }, true)
   else if re.op = 3 then some (m, fro p 1 r 0 0, true)
   else if re.op = 5 then match re.kids with
    | [] => none
    | kid :: _ => some (m, fro (fro p 4 r 0 p.at_) 0 (.el kid) 0 0, true)
   else if re.op = 6 then match refR m.t re p with
    | none => none
    | some x => some (m, x)
   else if re.op = 7 ∨ re.op = 8 then match re.kids with
    | [] => none
    | kid :: _ => behindB rec m re kid p
   else if re.op = 9 then match re.kids with
    | [] => none
    | kid :: _ => aloneB rec m p (.mk 0 (.el kid) 0 0 .nil)
   else if re.op = 10 then match re.kids with
    | yes :: no :: _ => if re.n < 1 ∨ (p.caps.length : Int) < re.n then none else some (m, fro p 0 (.el (if 0 ≤ (p.caps.getD (re.n - 1).toNat (-1, -1)).1 then yes else no)) 0 0, true)
    | _ => none
   else if re.op = 11 then (if re.n < 0 ∨ 5 < re.n then none else some (m, p, holdsR re.n m.t p.at_))
   else some (m, p, true)
def roundB (m : Mst) (r : BRef) (n : Int) (p : BPlace) : Option Rs := match m.lit r with
 | none => none
 | some re => match re.kids with
  | [] => none
  | kid :: _ =>
   if m.fuel ≤ m.steps then some (m.step, .zero, false)
   else
    let m := m.step
    if n < re.mn then some (m, { p with todo := .mk 0 (.el kid) 0 0 (.mk 2 r (n + 1) 0 p.todo) }, true)
    else if 0 ≤ re.mx ∧ re.mx ≤ n then some (m, p, true)
    else
     let more : BPlace := { p with todo := .mk 0 (.el kid) 0 0 (.mk 3 r (n + 1) p.at_ p.todo) }
     if re.mode = 1 then some (m.push more, p, true) else some (m.push p, more, true)
def Mst.good (m : Mst) (p : BPlace) : Prop := (0 ≤ m.steps ∧ m.steps ≤ 10000000000000 ∧ m.top ≤ m.stk.length ∧ m.top ≤ 1200000000000) ∧ (0 ≤ p.at_ ∧ p.at_ ≤ m.t.length ∧ p.caps.length ≤ 1000000000) ∧ m.t.length ≤ 1000000 ∧ m.same
instance (m : Mst) (p : BPlace) : Decidable (m.good p) := by unfold Mst.good; infer_instance
def advB (rec : Rec) (m : Mst) (p : BPlace) : Option Rs :=
 if ¬ m.good p then none else match p.todo with
 | .nil => none
 | .mk kind r n at_ next =>
  let p := { p with todo := next }
  if kind = 0 then beginB rec m r p
  else if n < 0 ∨ 10000000000000 < n then none
  else if kind = 1 then match m.lit r with
   | none => none
   | some re => if 1000000000 < re.kids.length then none else match re.kids[n.toNat]? with
    | none => none
    | some kid => some (if n + 1 < re.kids.length then m.push (fro p 1 r (n + 1) 0) else m, fro p 0 (.el kid) 0 0, true)
  else if kind = 2 then roundB m r n p
  else if kind = 3 then (if p.at_ = at_ then some (m, .zero, false) else some (m, fro p 2 r n 0, true))
  else if kind = 4 then match m.lit r with
   | none => none
   | some re => if re.n < 1 ∨ (p.caps.length : Int) < re.n then none else some (m, { p with caps := p.caps.set (re.n - 1).toNat (at_, p.at_) }, true)
  else if kind = 5 then some (m, p, decide (p.at_ = at_))
  else none
def srchB : Nat → Bool → Mst → Nat → BPlace → Bool → Option Rs
 | 0, _, _, _, _, _ => none
 | k + 1, out, m, base, p, alive =>
  if out = true ∧ m.spent = true then some (m, .zero, false)
  else if alive = true ∧ p.goals = true then match advB (fun m base p => srchB k true m base p true) m p with
   | none => none
   | some (m', p', alive') => srchB k false m' base p' alive'
  else if alive = true then some (m, p, !m.spent)
  else if m.top = base then some (m, .zero, false)
  else if m.top = 0 ∨ m.stk.length < m.top ∨ 1200000000000 < m.top then none
  else match m.stk[m.top - 1]? with
   | none => none
   | some none => none
   | some (some last) => srchB k true m.pop base last true
def BPlace.v (b a : Nat) (p : BPlace) : V := .ag ((p.cells b a).map .d)
theorem zM : type_of% (And.intro @i64.eq_1 <| And.intro @bV.eq_1 <| And.intro @iD.eq_1 <| And.intro @bD.eq_1 <| And.intro @List.cons_append.{0} <| And.intro @List.nil_append.{0} <| And.intro @List.map_cons.{0, 0} <| And.intro @List.map_nil.{0, 0} <| And.intro @BPlace.v.eq_1 @BPlace.cells.eq_1) := (And.intro @i64.eq_1 <| And.intro @bV.eq_1 <| And.intro @iD.eq_1 <| And.intro @bD.eq_1 <| And.intro @List.cons_append.{0} <| And.intro @List.nil_append.{0} <| And.intro @List.map_cons.{0, 0} <| And.intro @List.map_nil.{0, 0} <| And.intro @BPlace.v.eq_1 @BPlace.cells.eq_1)
def rsV (b a : Nat) (p : BPlace) (x : Bool) : V := .tu [p.v b a, bV x]
theorem choose_ok (g b a : Nat) (m : Mst) (p : BPlace) (h0 : m.top ≤ m.stk.length) (h1 : m.top ≤ 1200000000000) :
  callWp prog 67 [.pp 0 g 0 0 b a, p.v b a] (m.objs g b a) fun v s => v = .tu [] ∧ s = (m.push p).objs g b a := by
 unfold Mst.objs Mst.objsT
 refine fn_ok func67 rfl ntmps67 results67 rfl 3 11 (by simp) (by simp) ?_
 simp only [zX, simprocAttr, BPlace.v, BPlace.cells, List.map_cons, List.map_nil, i64, bV, Re.cells_eq, iD, bD]
 refine draw_c mix [] [(2,[0],[]),(3,[0],[]),(4,[0],[]),(8,[1],[1]),(9,[0],[]),(10,[0],[]),(11,[0],[0])] (by rfl) ?_
 simp only [zX, simprocAttr, i64, bV, Re.cells_eq, iD, bD]
 refine ⟨rfl, by simp, ⟨by omega, by omega⟩, ?_⟩
 refine draw_c mix [] [(2,[0],[]),(3,[0],[]),(4,[0],[]),(6,[0],[]),(7,[0],[]),(8,[0],[]),(11,[0],[]),(12,[0],[]),(13,[0],[0])] (by rfl) ?_
 simp only [zX, simprocAttr, i64, bV, Re.cells_eq, iD, bD]
 have e : List.take m.top (m.stk.map (stV b a)) ++ [[V.d (D.sc (Value.int IntKind.i64 p.at_)), V.d (capD p.caps), V.d (BGoal.d b a p.todo)]] = (m.push p).stk.map (stV b a) := by
  simp only [Mst.push, List.map_append, List.map_take]; rfl
 rw [e]
 exact ⟨mobjs_ok (m.push p) b a, rfl⟩
theorem opd1 {o : Int} (h : o = 1) : decide (o = 1) = true ∧ decide (o = 2) = false ∧ decide (o = 3) = false ∧ decide (o = 4) = false ∧ decide (o = 5) = false ∧ decide (o = 6) = false ∧ decide (o = 7) = false ∧ decide (o = 8) = false ∧ decide (o = 9) = false ∧ decide (o = 10) = false ∧ decide (o = 11) = false := by subst h; decide
theorem opd2 {o : Int} (h : o = 2) : decide (o = 1) = false ∧ decide (o = 2) = true ∧ decide (o = 3) = false ∧ decide (o = 4) = false ∧ decide (o = 5) = false ∧ decide (o = 6) = false ∧ decide (o = 7) = false ∧ decide (o = 8) = false ∧ decide (o = 9) = false ∧ decide (o = 10) = false ∧ decide (o = 11) = false := by subst h; decide
theorem opd3 {o : Int} (h : o = 3) : decide (o = 1) = false ∧ decide (o = 2) = false ∧ decide (o = 3) = true ∧ decide (o = 4) = false ∧ decide (o = 5) = false ∧ decide (o = 6) = false ∧ decide (o = 7) = false ∧ decide (o = 8) = false ∧ decide (o = 9) = false ∧ decide (o = 10) = false ∧ decide (o = 11) = false := by subst h; decide
theorem opd4 {o : Int} (h : o = 4) : decide (o = 1) = false ∧ decide (o = 2) = false ∧ decide (o = 3) = false ∧ decide (o = 4) = true ∧ decide (o = 5) = false ∧ decide (o = 6) = false ∧ decide (o = 7) = false ∧ decide (o = 8) = false ∧ decide (o = 9) = false ∧ decide (o = 10) = false ∧ decide (o = 11) = false := by subst h; decide
theorem opd5 {o : Int} (h : o = 5) : decide (o = 1) = false ∧ decide (o = 2) = false ∧ decide (o = 3) = false ∧ decide (o = 4) = false ∧ decide (o = 5) = true ∧ decide (o = 6) = false ∧ decide (o = 7) = false ∧ decide (o = 8) = false ∧ decide (o = 9) = false ∧ decide (o = 10) = false ∧ decide (o = 11) = false := by subst h; decide
theorem opd6 {o : Int} (h : o = 6) : decide (o = 1) = false ∧ decide (o = 2) = false ∧ decide (o = 3) = false ∧ decide (o = 4) = false ∧ decide (o = 5) = false ∧ decide (o = 6) = true ∧ decide (o = 7) = false ∧ decide (o = 8) = false ∧ decide (o = 9) = false ∧ decide (o = 10) = false ∧ decide (o = 11) = false := by subst h; decide
theorem opd7 {o : Int} (h : o = 7) : decide (o = 1) = false ∧ decide (o = 2) = false ∧ decide (o = 3) = false ∧ decide (o = 4) = false ∧ decide (o = 5) = false ∧ decide (o = 6) = false ∧ decide (o = 7) = true ∧ decide (o = 8) = false ∧ decide (o = 9) = false ∧ decide (o = 10) = false ∧ decide (o = 11) = false := by subst h; decide
theorem opd8 {o : Int} (h : o = 8) : decide (o = 1) = false ∧ decide (o = 2) = false ∧ decide (o = 3) = false ∧ decide (o = 4) = false ∧ decide (o = 5) = false ∧ decide (o = 6) = false ∧ decide (o = 7) = false ∧ decide (o = 8) = true ∧ decide (o = 9) = false ∧ decide (o = 10) = false ∧ decide (o = 11) = false := by subst h; decide
theorem opd9 {o : Int} (h : o = 9) : decide (o = 1) = false ∧ decide (o = 2) = false ∧ decide (o = 3) = false ∧ decide (o = 4) = false ∧ decide (o = 5) = false ∧ decide (o = 6) = false ∧ decide (o = 7) = false ∧ decide (o = 8) = false ∧ decide (o = 9) = true ∧ decide (o = 10) = false ∧ decide (o = 11) = false := by subst h; decide
theorem opd10 {o : Int} (h : o = 10) : decide (o = 1) = false ∧ decide (o = 2) = false ∧ decide (o = 3) = false ∧ decide (o = 4) = false ∧ decide (o = 5) = false ∧ decide (o = 6) = false ∧ decide (o = 7) = false ∧ decide (o = 8) = false ∧ decide (o = 9) = false ∧ decide (o = 10) = true ∧ decide (o = 11) = false := by subst h; decide
theorem opd11 {o : Int} (h : o = 11) : decide (o = 1) = false ∧ decide (o = 2) = false ∧ decide (o = 3) = false ∧ decide (o = 4) = false ∧ decide (o = 5) = false ∧ decide (o = 6) = false ∧ decide (o = 7) = false ∧ decide (o = 8) = false ∧ decide (o = 9) = false ∧ decide (o = 10) = false ∧ decide (o = 11) = true := by subst h; decide
end Go.Proofs.Ytilapneoohcplaa
