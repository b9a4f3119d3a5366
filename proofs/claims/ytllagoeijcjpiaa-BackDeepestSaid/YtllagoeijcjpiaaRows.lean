/-
  No cell of these rows narrows 'for every input' (looked for: loops, veiled, ifaces, maps, wideKeys, modest, calm, conditions, laid).
  DERIVED. THE GIVEN ROWS OF THIS SEAT. 4 by the template 'for every input the law returns true; each argument reads behind the call as it read before'; 0 by the template 'total and deterministic' (their statements: YtllagoeijcjpiaaTotals.lean).
  GIVEN WITH THE SEED: the statements are not yours to turn. If you find one false, say at which input.
  Laid BY PROGRAM, IN A SANDBOX (cutbox-rows.mjs): the forced cells as the released guide's own fill.sh prints them over the translation e14b4379e9ebbfcf… (all of the seat's roots in one cut). By AI agents, Wed Nov 11 2026. No macro, syntax, notation, axiom, sorry.
-/
import Derived.Test.YtllagoeijcjpiaaChecked
import GoSem.Claim
import GoSem.ClaimJoined
import GoSem.ClaimMapViews
import Derived.JoinedTies
import Derived.KernelRfl
namespace Go.Proofs.Ytllagoeijcjpiaa
/- THE CELL 'sum', in the pinned program and in every row, IS THE sha256 OF THE DUMP (.gsa) THAT YtllagoeijcjpiaaProg.lean LOADS. Nothing in Lean hashes anything: it is a label: what it is worth is what the hold of that sum in a sandbox is worth. -/
noncomputable def Try.pinned : Pinned := { name := "ytllagoeijcjpiaa", sum := "e14b4379e9ebbfcf47c757f6f1cf68c355c396240e3b413d6c10037329c68cd6", checked := Try.checked }
namespace Rows
def none {H : Type} : Left H := { results := [], args := [] }

/-- 'rexmilllaw05.AstPaths': WHATEVER THE INPUT: true; the input reads as it did. -/
def astPathsSpec : ChangeSpec := { name := "astPaths", fn := fun _ => fun
  | [d1, d2, d3, d4] => { results := [.lit (.bool true)], args := [d1, d2, d3, d4] }
  | _ => none }
def astPathsRow : OpenClaim := { program := "ytllagoeijcjpiaa", sum := "e14b4379e9ebbfcf47c757f6f1cf68c355c396240e3b413d6c10037329c68cd6", func := "rexmill/rexmilllaw05.AstPaths", spec := "astPaths", unfollowed := true, recurses := true, apart := false }
def AstPathsSaid : Prop := astPathsRow.holds Try.pinned (OpenSpec.ofChange astPathsSpec)

/-- ITS FALSE NEIGHBOUR: 'it returns false'. Refute it at one input. -/
def astPathsWrong : ChangeSpec := { name := "astPaths", fn := fun _ => fun
  | [d1, d2, d3, d4] => { results := [.lit (.bool false)], args := [d1, d2, d3, d4] }
  | _ => none }
def AstPathsWrongFalsely : Prop := astPathsRow.holds Try.pinned (OpenSpec.ofChange astPathsWrong)

/-- 'rexmilllaw05.AstParts': WHATEVER THE INPUT: true; the input reads as it did. -/
def astPartsSpec : ChangeSpec := { name := "astParts", fn := fun _ => fun
  | [d1, d2, d3] => { results := [.lit (.bool true)], args := [d1, d2, d3] }
  | _ => none }
def astPartsRow : OpenClaim := { program := "ytllagoeijcjpiaa", sum := "e14b4379e9ebbfcf47c757f6f1cf68c355c396240e3b413d6c10037329c68cd6", func := "rexmill/rexmilllaw05.AstParts", spec := "astParts", unfollowed := true, recurses := true, apart := false }
def AstPartsSaid : Prop := astPartsRow.holds Try.pinned (OpenSpec.ofChange astPartsSpec)

/-- ITS FALSE NEIGHBOUR: 'it returns false'. Refute it at one input. -/
def astPartsWrong : ChangeSpec := { name := "astParts", fn := fun _ => fun
  | [d1, d2, d3] => { results := [.lit (.bool false)], args := [d1, d2, d3] }
  | _ => none }
def AstPartsWrongFalsely : Prop := astPartsRow.holds Try.pinned (OpenSpec.ofChange astPartsWrong)

/-- 'rexmilllaw08.BackDeepest': WHATEVER THE INPUT: true; the input reads as it did. -/
def backDeepestSpec : ChangeSpec := { name := "backDeepest", fn := fun _ => fun
  | [d1, d2, d3, d4] => { results := [.lit (.bool true)], args := [d1, d2, d3, d4] }
  | _ => none }
def backDeepestRow : OpenClaim := { program := "ytllagoeijcjpiaa", sum := "e14b4379e9ebbfcf47c757f6f1cf68c355c396240e3b413d6c10037329c68cd6", func := "rexmill/rexmilllaw08.BackDeepest", spec := "backDeepest", unfollowed := true, recurses := true, apart := false }
def BackDeepestSaid : Prop := backDeepestRow.holds Try.pinned (OpenSpec.ofChange backDeepestSpec)

/-- ITS FALSE NEIGHBOUR: 'it returns false'. Refute it at one input. -/
def backDeepestWrong : ChangeSpec := { name := "backDeepest", fn := fun _ => fun
  | [d1, d2, d3, d4] => { results := [.lit (.bool false)], args := [d1, d2, d3, d4] }
  | _ => none }
def BackDeepestWrongFalsely : Prop := backDeepestRow.holds Try.pinned (OpenSpec.ofChange backDeepestWrong)

/-- 'rexmilllaw07.SemLocal': WHATEVER THE INPUT: true; the input reads as it did. -/
def semLocalSpec : ChangeSpec := { name := "semLocal", fn := fun _ => fun
  | [d1, d2, d3, d4] => { results := [.lit (.bool true)], args := [d1, d2, d3, d4] }
  | _ => none }
def semLocalRow : OpenClaim := { program := "ytllagoeijcjpiaa", sum := "e14b4379e9ebbfcf47c757f6f1cf68c355c396240e3b413d6c10037329c68cd6", func := "rexmill/rexmilllaw07.SemLocal", spec := "semLocal", unfollowed := true, recurses := true, apart := false }
def SemLocalSaid : Prop := semLocalRow.holds Try.pinned (OpenSpec.ofChange semLocalSpec)

/-- ITS FALSE NEIGHBOUR: 'it returns false'. Refute it at one input. -/
def semLocalWrong : ChangeSpec := { name := "semLocal", fn := fun _ => fun
  | [d1, d2, d3, d4] => { results := [.lit (.bool false)], args := [d1, d2, d3, d4] }
  | _ => none }
def SemLocalWrongFalsely : Prop := semLocalRow.holds Try.pinned (OpenSpec.ofChange semLocalWrong)

/- THE SECOND FORM. 'bulk': how many values and letters a reading holds, each counted each time it is reached (what is shared counts as often as it is met; a slice's spare places count too). A statement '..UptoSaid' is the law's where the arguments, and the package variables that the reading takes, are together of bulk at most 1048576: NARROWER than '..Said'. Prove '..Said' where nothing that the law and all that it calls make is longer than what came in: it says more and counts as full. Else prove '..UptoSaid'. A law counts once. -/
mutual
def uptoBulk {H : Type} : DataW H → Nat
  | .lit (.string bytes) => bytes.length + 1
  | .lit _ => 1
  | .nil => 1
  | .ptr d => uptoBulk d + 1
  | .slice elems spare => uptoBulkAll elems + uptoBulkAll spare + 1
  | .agg parts => uptoBulkAll parts + 1
  | .iface _ d => uptoBulk d + 1
  | .map entries => uptoBulkEntries entries + 1
  | .held _ => 1
def uptoBulkAll {H : Type} : List (DataW H) → Nat
  | [] => 0
  | d :: r => uptoBulk d + uptoBulkAll r
def uptoBulkEntries {H : Type} : List (Lit × DataW H) → Nat
  | [] => 0
  | x :: r => uptoBulkEntry x + uptoBulkEntries r
def uptoBulkEntry {H : Type} : Lit × DataW H → Nat
  | (.string bytes, d) => bytes.length + uptoBulk d + 1
  | (_, d) => uptoBulk d + 1
 end
def uptoSmall : (H : Type) → List (DataW H) → Bool := fun _ ds => decide (uptoBulkAll ds ≤ 1048576)
def OpenSpec.upto (s : _root_.Go.ChangeSpec) : _root_.Go.OpenSpec := { _root_.Go.OpenSpec.ofChange s with cond := some uptoSmall }

/-- 'rexmilllaw05.AstPaths', WHERE WHAT IT READS IS OF BULK AT MOST 1048576: true; the input reads as it did. -/
def astPathsUptoRow : OpenClaim := { program := "ytllagoeijcjpiaa", sum := "e14b4379e9ebbfcf47c757f6f1cf68c355c396240e3b413d6c10037329c68cd6", func := "rexmill/rexmilllaw05.AstPaths", spec := "astPaths", unfollowed := true, recurses := true, apart := false, narrowed := true }
def AstPathsUptoSaid : Prop := astPathsUptoRow.holds Try.pinned (OpenSpec.upto astPathsSpec)

/-- 'rexmilllaw05.AstParts', WHERE WHAT IT READS IS OF BULK AT MOST 1048576: true; the input reads as it did. -/
def astPartsUptoRow : OpenClaim := { program := "ytllagoeijcjpiaa", sum := "e14b4379e9ebbfcf47c757f6f1cf68c355c396240e3b413d6c10037329c68cd6", func := "rexmill/rexmilllaw05.AstParts", spec := "astParts", unfollowed := true, recurses := true, apart := false, narrowed := true }
def AstPartsUptoSaid : Prop := astPartsUptoRow.holds Try.pinned (OpenSpec.upto astPartsSpec)

/-- 'rexmilllaw08.BackDeepest', WHERE WHAT IT READS IS OF BULK AT MOST 1048576: true; the input reads as it did. -/
def backDeepestUptoRow : OpenClaim := { program := "ytllagoeijcjpiaa", sum := "e14b4379e9ebbfcf47c757f6f1cf68c355c396240e3b413d6c10037329c68cd6", func := "rexmill/rexmilllaw08.BackDeepest", spec := "backDeepest", unfollowed := true, recurses := true, apart := false, narrowed := true }
def BackDeepestUptoSaid : Prop := backDeepestUptoRow.holds Try.pinned (OpenSpec.upto backDeepestSpec)

/-- 'rexmilllaw07.SemLocal', WHERE WHAT IT READS IS OF BULK AT MOST 1048576: true; the input reads as it did. -/
def semLocalUptoRow : OpenClaim := { program := "ytllagoeijcjpiaa", sum := "e14b4379e9ebbfcf47c757f6f1cf68c355c396240e3b413d6c10037329c68cd6", func := "rexmill/rexmilllaw07.SemLocal", spec := "semLocal", unfollowed := true, recurses := true, apart := false, narrowed := true }
def SemLocalUptoSaid : Prop := semLocalUptoRow.holds Try.pinned (OpenSpec.upto semLocalSpec)

end Rows
end Go.Proofs.Ytllagoeijcjpiaa
