/- The data of the chapters as lists, and how they stand in memory. -/
import Derived.Test.YtafbdphblilenaaTy
import Derived.Test.YtafbdphblilenaaVt
namespace Go.Proofs.Ytafbdphblilenaa
open Go.VL

def iD (n : Int) : D := .sc (.int .i64 n)
def bD (b : Bool) : D := .sc (.bool b)
def i64 (n : Int) : V := .d (.sc (.int .i64 n))
def bV (b : Bool) : V := .d (.sc (.bool b))
/-- A slice of integers. -/
abbrev intsD (l : List Int) : D := .sl (l.map fun x => [iD x])

theorem w64 (n : Int) (h : -9223372036854775808 ≤ n ∧ n ≤ 9223372036854775807) : IntKind.i64.wrap n = n := IntWalk.i64_in n h

def spanC (s : Int × Int) : List D := [iD s.1, iD s.2]

/-- A tree. -/
inductive Re where
  | mk (op : Int) (set : List (Int × Int)) (kids : List Re) (mn mx mode n : Int) (neg : Bool)

def Re.op : Re → Int | .mk x _ _ _ _ _ _ _ => x
def Re.set : Re → List (Int × Int) | .mk _ x _ _ _ _ _ _ => x
def Re.kids : Re → List Re | .mk _ _ x _ _ _ _ _ => x
def Re.mn : Re → Int | .mk _ _ _ x _ _ _ _ => x
def Re.mx : Re → Int | .mk _ _ _ _ x _ _ _ => x
def Re.mode : Re → Int | .mk _ _ _ _ _ x _ _ => x
def Re.n : Re → Int | .mk _ _ _ _ _ _ x _ => x
def Re.neg : Re → Bool | .mk _ _ _ _ _ _ _ x => x

mutual
def Re.cells : Re → List D
  | .mk op set kids mn mx mode n neg => [iD op, .sl (set.map spanC), .sl (Re.cellsL kids), iD mn, iD mx, iD mode, iD n, bD neg]
def Re.cellsL : List Re → List (List D)
  | [] => []
  | k :: l => k.cells :: Re.cellsL l
end

theorem Re.cellsL_eq : ∀ l : List Re, Re.cellsL l = l.map Re.cells
  | [] => by simp [Re.cellsL]
  | k :: l => by simp [Re.cellsL, Re.cellsL_eq l]

theorem Re.cells_eq (re : Re) : re.cells = [iD re.op, .sl (re.set.map spanC), .sl (re.kids.map Re.cells), iD re.mn, iD re.mx, iD re.mode, iD re.n, bD re.neg] := by
  cases re; simp [Re.cells, Re.cellsL_eq, Re.op, Re.set, Re.kids, Re.mn, Re.mx, Re.mode, Re.n, Re.neg]

theorem Re.cells_len (re : Re) : re.cells.length = 8 := by rw [Re.cells_eq]; rfl

def reV (re : Re) : V := .ag (re.cells.map .d)

theorem take_cells (re : Re) : (re.cells.map V.d).take 8 = re.cells.map V.d := List.take_of_length_le (by simp [Re.cells_len])

theorem drop_cells (re : Re) : (re.cells.map V.d).drop 8 = [] := List.drop_of_length_le (by simp [Re.cells_len])

theorem reV_fold (re : Re) : V.ag (re.cells.map V.d) = reV re := rfl

theorem reV_eq (re : Re) : reV re = .ag [.d (iD re.op), .d (.sl (re.set.map spanC)), .d (.sl (re.kids.map Re.cells)), .d (iD re.mn), .d (iD re.mx), .d (iD re.mode), .d (iD re.n), .d (bD re.neg)] := by
  rw [reV, Re.cells_eq]; rfl

theorem renV_reV (ρ : List Nat) (re : Re) : renV ρ (reV re) = reV re := by rw [reV_eq]; rfl

/-- A pointer to a tree. -/
def reEl (re : Re) : V := .d (.el re.cells)

theorem elP_map {α : Type} (l : List α) (f : α → List D) (i z : Nat) (K : V → Prop) : elP (l.map f) i z K = match l[i]? with | none => False | some x => (f x).length = z ∧ K (.d (.el (f x))) := by
  unfold elP
  rw [List.getElem?_map]
  cases l[i]? <;> rfl

mutual
def Re.size : Re → Nat
  | .mk _ _ kids _ _ _ _ _ => 1 + Re.sizeL kids
def Re.sizeL : List Re → Nat
  | [] => 0
  | k :: l => k.size + Re.sizeL l
end

theorem Re.size_eq (re : Re) : re.size = 1 + Re.sizeL re.kids := by cases re; simp [Re.size, Re.kids]

theorem Re.size_pos (re : Re) : 0 < re.size := by rw [Re.size_eq]; omega

theorem Re.sizeL_mem : ∀ {l : List Re} {k : Re}, k ∈ l → k.size ≤ Re.sizeL l
  | k' :: l, k, h => by
    simp only [Re.sizeL]
    rcases List.mem_cons.1 h with rfl | h
    · omega
    · have := Re.sizeL_mem h; omega

theorem Re.size_kid {re k : Re} (h : k ∈ re.kids) : k.size < re.size := by
  have := Re.sizeL_mem h
  rw [Re.size_eq re]; omega

theorem Re.len_le : ∀ l : List Re, l.length ≤ Re.sizeL l
  | [] => by simp
  | k :: l => by simp only [List.length_cons, Re.sizeL]; have := Re.len_le l; have := k.size_pos; omega

/-- The first elements of a list and the next one. -/
theorem take_get {α : Type} {l : List α} {i : Nat} {x : α} (h : l[i]? = some x) : l.take (i + 1) = l.take i ++ [x] := by
  rw [List.take_add_one, h]; rfl

theorem Re.sizeL_append : ∀ a b : List Re, Re.sizeL (a ++ b) = Re.sizeL a + Re.sizeL b
  | [], b => by simp [Re.sizeL]
  | k :: l, b => by simp only [List.cons_append, Re.sizeL, Re.sizeL_append l b]; omega

theorem Re.sizeL_take (l : List Re) (i : Nat) : Re.sizeL (l.take i) ≤ Re.sizeL l := by
  conv => rhs; rw [← List.take_append_drop i l]
  rw [Re.sizeL_append]; omega

theorem cellsV_reV (re : Re) : cellsV (reV re) = some (re.cells.map V.d) := rfl

theorem mapM_some {α β : Type} (f : α → Option β) (g : β → α) (h : ∀ x, f (g x) = some x) : ∀ l : List β, (l.map g).mapM f = some l
  | [] => rfl
  | x :: l => by rw [List.map_cons, List.mapM_cons, h, mapM_some f g h l]; rfl

theorem mapM_toD (cs : List D) : (cs.map V.d).mapM toD = some cs := mapM_some toD V.d (fun _ => rfl) cs

theorem frzD_d (n lim : Nat) (s : List VL.Obj) (x : D) : frzD n lim s (.d x) = some x := by cases n <;> rfl

theorem mapM_frzD (n lim : Nat) (s : List VL.Obj) (cs : List D) : (cs.map V.d).mapM (frzD n lim s) = some cs := mapM_some (frzD n lim s) V.d (frzD_d n lim s) cs

theorem mapM_frzE (n lim : Nat) (s : List VL.Obj) (l : List (List D)) : (l.map fun c => c.map V.d).mapM (fun (e : List V) => e.mapM (frzD n lim s)) = some l := mapM_some (fun (e : List V) => e.mapM (frzD n lim s)) (fun c => c.map V.d) (mapM_frzD n lim s) l

/-- Induction over trees, by their size. -/
theorem Re.ind {Q : Re → Prop} (h : ∀ re, (∀ k ∈ re.kids, Q k) → Q re) (re : Re) : Q re := by
  induction hn : re.size using Nat.strongRecOn generalizing re with
  | _ n ih => exact h re fun k hk => ih k.size (by have := Re.size_kid hk; omega) k rfl

/-- The equations for simp, as one. -/
theorem vsB : type_of% (
  And.intro @cellsV_reV <|
  And.intro @mapM_toD <|
  And.intro @mapM_frzD <|
  And.intro @mapM_frzE <|
  And.intro @frzD_d <|
  And.intro @Re.cells_len <|
  And.intro @take_cells <|
  And.intro @drop_cells <|
  @reV_fold) :=
  And.intro @cellsV_reV <|
  And.intro @mapM_toD <|
  And.intro @mapM_frzD <|
  And.intro @mapM_frzE <|
  And.intro @frzD_d <|
  And.intro @Re.cells_len <|
  And.intro @take_cells <|
  And.intro @drop_cells <|
  @reV_fold

end Go.Proofs.Ytafbdphblilenaa
