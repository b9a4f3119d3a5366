/-
  No cell of these rows narrows 'for every input' (looked for: loops, veiled, ifaces, maps, wideKeys, modest, calm, conditions, laid).
  DERIVED. THE GIVEN ROWS OF THIS SEAT. 6 by the template 'for every input the law returns true; each argument reads behind the call as it read before'; 0 by the template 'total and deterministic' (their statements: YtilapneoohcplaaTotals.lean).
  GIVEN WITH THE SEED: the statements are not yours to turn. If you find one false, say at which input.
  Laid BY PROGRAM, IN A SANDBOX (cutbox-rows.mjs): the forced cells as the released guide's own fill.sh prints them over the translation 7e667809a65f6f13… (all of the seat's roots in one cut). By AI agents, Wed Nov 11 2026. No macro, syntax, notation, axiom, sorry.
-/
import Derived.Test.YtilapneoohcplaaChecked
import GoSem.Claim
import GoSem.ClaimJoined
import GoSem.ClaimMapViews
import Derived.JoinedTies
import Derived.KernelRfl
namespace Go.Proofs.Ytilapneoohcplaa
/- THE CELL 'sum', in the pinned program and in every row, IS THE sha256 OF THE DUMP (.gsa) THAT YtilapneoohcplaaProg.lean LOADS. Nothing in Lean hashes anything: it is a label: what it is worth is what the hold of that sum in a sandbox is worth. -/
noncomputable def Try.pinned : Pinned := { name := "ytilapneoohcplaa", sum := "7e667809a65f6f13bc676613c71fa82a03516d07079e881bf109373eec24b22b", checked := Try.checked }
namespace Rows
def none {H : Type} : Left H := { results := [], args := [] }

/-- 'rexmilllaw08.BackRuns': WHATEVER THE INPUT: true; the input reads as it did. -/
def backRunsSpec : ChangeSpec := { name := "backRuns", fn := fun _ => fun
  | [d1, d2, d3, d4, d5] => { results := [.lit (.bool true)], args := [d1, d2, d3, d4, d5] }
  | _ => none }
def backRunsRow : OpenClaim := { program := "ytilapneoohcplaa", sum := "7e667809a65f6f13bc676613c71fa82a03516d07079e881bf109373eec24b22b", func := "rexmill/rexmilllaw08.BackRuns", spec := "backRuns", unfollowed := true, recurses := true, apart := false }
def BackRunsSaid : Prop := backRunsRow.holds Try.pinned (OpenSpec.ofChange backRunsSpec)

/-- ITS FALSE NEIGHBOUR: 'it returns false'. Refute it at one input. -/
def backRunsWrong : ChangeSpec := { name := "backRuns", fn := fun _ => fun
  | [d1, d2, d3, d4, d5] => { results := [.lit (.bool false)], args := [d1, d2, d3, d4, d5] }
  | _ => none }
def BackRunsWrongFalsely : Prop := backRunsRow.holds Try.pinned (OpenSpec.ofChange backRunsWrong)

/-- 'rexmilllaw08.BackNext': WHATEVER THE INPUT: true; the input reads as it did. -/
def backNextSpec : ChangeSpec := { name := "backNext", fn := fun _ => fun
  | [d1, d2, d3] => { results := [.lit (.bool true)], args := [d1, d2, d3] }
  | _ => none }
def backNextRow : OpenClaim := { program := "ytilapneoohcplaa", sum := "7e667809a65f6f13bc676613c71fa82a03516d07079e881bf109373eec24b22b", func := "rexmill/rexmilllaw08.BackNext", spec := "backNext", unfollowed := true, recurses := true, apart := false }
def BackNextSaid : Prop := backNextRow.holds Try.pinned (OpenSpec.ofChange backNextSpec)

/-- ITS FALSE NEIGHBOUR: 'it returns false'. Refute it at one input. -/
def backNextWrong : ChangeSpec := { name := "backNext", fn := fun _ => fun
  | [d1, d2, d3] => { results := [.lit (.bool false)], args := [d1, d2, d3] }
  | _ => none }
def BackNextWrongFalsely : Prop := backNextRow.holds Try.pinned (OpenSpec.ofChange backNextWrong)

/-- 'rexmilllaw08.BackDeepest': WHATEVER THE INPUT: true; the input reads as it did. -/
def backDeepestSpec : ChangeSpec := { name := "backDeepest", fn := fun _ => fun
  | [d1, d2, d3, d4] => { results := [.lit (.bool true)], args := [d1, d2, d3, d4] }
  | _ => none }
def backDeepestRow : OpenClaim := { program := "ytilapneoohcplaa", sum := "7e667809a65f6f13bc676613c71fa82a03516d07079e881bf109373eec24b22b", func := "rexmill/rexmilllaw08.BackDeepest", spec := "backDeepest", unfollowed := true, recurses := true, apart := false }
def BackDeepestSaid : Prop := backDeepestRow.holds Try.pinned (OpenSpec.ofChange backDeepestSpec)

/-- ITS FALSE NEIGHBOUR: 'it returns false'. Refute it at one input. -/
def backDeepestWrong : ChangeSpec := { name := "backDeepest", fn := fun _ => fun
  | [d1, d2, d3, d4] => { results := [.lit (.bool false)], args := [d1, d2, d3, d4] }
  | _ => none }
def BackDeepestWrongFalsely : Prop := backDeepestRow.holds Try.pinned (OpenSpec.ofChange backDeepestWrong)

/-- 'rexmilllaw08.BackFuel': WHATEVER THE INPUT: true; the input reads as it did. -/
def backFuelSpec : ChangeSpec := { name := "backFuel", fn := fun _ => fun
  | [d1, d2, d3] => { results := [.lit (.bool true)], args := [d1, d2, d3] }
  | _ => none }
def backFuelRow : OpenClaim := { program := "ytilapneoohcplaa", sum := "7e667809a65f6f13bc676613c71fa82a03516d07079e881bf109373eec24b22b", func := "rexmill/rexmilllaw08.BackFuel", spec := "backFuel", unfollowed := true, recurses := true, apart := false }
def BackFuelSaid : Prop := backFuelRow.holds Try.pinned (OpenSpec.ofChange backFuelSpec)

/-- ITS FALSE NEIGHBOUR: 'it returns false'. Refute it at one input. -/
def backFuelWrong : ChangeSpec := { name := "backFuel", fn := fun _ => fun
  | [d1, d2, d3] => { results := [.lit (.bool false)], args := [d1, d2, d3] }
  | _ => none }
def BackFuelWrongFalsely : Prop := backFuelRow.holds Try.pinned (OpenSpec.ofChange backFuelWrong)

/-- 'rexmilllaw08.BackAtomic': WHATEVER THE INPUT: true; the input reads as it did. -/
def backAtomicSpec : ChangeSpec := { name := "backAtomic", fn := fun _ => fun
  | [d1, d2, d3] => { results := [.lit (.bool true)], args := [d1, d2, d3] }
  | _ => none }
def backAtomicRow : OpenClaim := { program := "ytilapneoohcplaa", sum := "7e667809a65f6f13bc676613c71fa82a03516d07079e881bf109373eec24b22b", func := "rexmill/rexmilllaw08.BackAtomic", spec := "backAtomic", unfollowed := true, recurses := true, apart := false }
def BackAtomicSaid : Prop := backAtomicRow.holds Try.pinned (OpenSpec.ofChange backAtomicSpec)

/-- ITS FALSE NEIGHBOUR: 'it returns false'. Refute it at one input. -/
def backAtomicWrong : ChangeSpec := { name := "backAtomic", fn := fun _ => fun
  | [d1, d2, d3] => { results := [.lit (.bool false)], args := [d1, d2, d3] }
  | _ => none }
def BackAtomicWrongFalsely : Prop := backAtomicRow.holds Try.pinned (OpenSpec.ofChange backAtomicWrong)

/-- 'rexmilllaw08.BackAlone': WHATEVER THE INPUT: true; the input reads as it did. -/
def backAloneSpec : ChangeSpec := { name := "backAlone", fn := fun _ => fun
  | [d1, d2, d3, d4] => { results := [.lit (.bool true)], args := [d1, d2, d3, d4] }
  | _ => none }
def backAloneRow : OpenClaim := { program := "ytilapneoohcplaa", sum := "7e667809a65f6f13bc676613c71fa82a03516d07079e881bf109373eec24b22b", func := "rexmill/rexmilllaw08.BackAlone", spec := "backAlone", unfollowed := true, recurses := true, apart := false }
def BackAloneSaid : Prop := backAloneRow.holds Try.pinned (OpenSpec.ofChange backAloneSpec)

/-- ITS FALSE NEIGHBOUR: 'it returns false'. Refute it at one input. -/
def backAloneWrong : ChangeSpec := { name := "backAlone", fn := fun _ => fun
  | [d1, d2, d3, d4] => { results := [.lit (.bool false)], args := [d1, d2, d3, d4] }
  | _ => none }
def BackAloneWrongFalsely : Prop := backAloneRow.holds Try.pinned (OpenSpec.ofChange backAloneWrong)

/- THE SECOND FORM. 'bulk': how many values and letters a reading holds, each counted each time it is reached (what is shared counts as often as it is met; a slice's spare places count too). A statement '..UptoSaid' is the law's where the arguments, and the package variables that the reading takes, are together of bulk at most 1048576: NARROWER than '..Said'. Prove '..Said' where nothing that the law and all that it calls make is longer than what came in: it says more and counts as full. Else prove '..UptoSaid'. A law counts once. -/
mutual
def uptoBulk {H : Type} : DataW H → Nat
  | .lit (.string bytes) => bytes.length + 1
  | .lit _ => 1
  | .nil => 1
  | .ptr d => uptoBulk d + 1
  | .slice elems spare => uptoBulkAll elems + uptoBulkAll spare + 1
  | .agg parts => uptoBulkAll parts + 1
  | .iface _ d => uptoBulk d + 1
  | .map entries => uptoBulkEntries entries + 1
  | .held _ => 1
def uptoBulkAll {H : Type} : List (DataW H) → Nat
  | [] => 0
  | d :: r => uptoBulk d + uptoBulkAll r
def uptoBulkEntries {H : Type} : List (Lit × DataW H) → Nat
  | [] => 0
  | x :: r => uptoBulkEntry x + uptoBulkEntries r
def uptoBulkEntry {H : Type} : Lit × DataW H → Nat
  | (.string bytes, d) => bytes.length + uptoBulk d + 1
  | (_, d) => uptoBulk d + 1
 end
def uptoSmall : (H : Type) → List (DataW H) → Bool := fun _ ds => decide (uptoBulkAll ds ≤ 1048576)
def OpenSpec.upto (s : _root_.Go.ChangeSpec) : _root_.Go.OpenSpec := { _root_.Go.OpenSpec.ofChange s with cond := some uptoSmall }

/-- 'rexmilllaw08.BackRuns', WHERE WHAT IT READS IS OF BULK AT MOST 1048576: true; the input reads as it did. -/
def backRunsUptoRow : OpenClaim := { program := "ytilapneoohcplaa", sum := "7e667809a65f6f13bc676613c71fa82a03516d07079e881bf109373eec24b22b", func := "rexmill/rexmilllaw08.BackRuns", spec := "backRuns", unfollowed := true, recurses := true, apart := false, narrowed := true }
def BackRunsUptoSaid : Prop := backRunsUptoRow.holds Try.pinned (OpenSpec.upto backRunsSpec)

/-- 'rexmilllaw08.BackNext', WHERE WHAT IT READS IS OF BULK AT MOST 1048576: true; the input reads as it did. -/
def backNextUptoRow : OpenClaim := { program := "ytilapneoohcplaa", sum := "7e667809a65f6f13bc676613c71fa82a03516d07079e881bf109373eec24b22b", func := "rexmill/rexmilllaw08.BackNext", spec := "backNext", unfollowed := true, recurses := true, apart := false, narrowed := true }
def BackNextUptoSaid : Prop := backNextUptoRow.holds Try.pinned (OpenSpec.upto backNextSpec)

/-- 'rexmilllaw08.BackDeepest', WHERE WHAT IT READS IS OF BULK AT MOST 1048576: true; the input reads as it did. -/
def backDeepestUptoRow : OpenClaim := { program := "ytilapneoohcplaa", sum := "7e667809a65f6f13bc676613c71fa82a03516d07079e881bf109373eec24b22b", func := "rexmill/rexmilllaw08.BackDeepest", spec := "backDeepest", unfollowed := true, recurses := true, apart := false, narrowed := true }
def BackDeepestUptoSaid : Prop := backDeepestUptoRow.holds Try.pinned (OpenSpec.upto backDeepestSpec)

/-- 'rexmilllaw08.BackFuel', WHERE WHAT IT READS IS OF BULK AT MOST 1048576: true; the input reads as it did. -/
def backFuelUptoRow : OpenClaim := { program := "ytilapneoohcplaa", sum := "7e667809a65f6f13bc676613c71fa82a03516d07079e881bf109373eec24b22b", func := "rexmill/rexmilllaw08.BackFuel", spec := "backFuel", unfollowed := true, recurses := true, apart := false, narrowed := true }
def BackFuelUptoSaid : Prop := backFuelUptoRow.holds Try.pinned (OpenSpec.upto backFuelSpec)

/-- 'rexmilllaw08.BackAtomic', WHERE WHAT IT READS IS OF BULK AT MOST 1048576: true; the input reads as it did. -/
def backAtomicUptoRow : OpenClaim := { program := "ytilapneoohcplaa", sum := "7e667809a65f6f13bc676613c71fa82a03516d07079e881bf109373eec24b22b", func := "rexmill/rexmilllaw08.BackAtomic", spec := "backAtomic", unfollowed := true, recurses := true, apart := false, narrowed := true }
def BackAtomicUptoSaid : Prop := backAtomicUptoRow.holds Try.pinned (OpenSpec.upto backAtomicSpec)

/-- 'rexmilllaw08.BackAlone', WHERE WHAT IT READS IS OF BULK AT MOST 1048576: true; the input reads as it did. -/
def backAloneUptoRow : OpenClaim := { program := "ytilapneoohcplaa", sum := "7e667809a65f6f13bc676613c71fa82a03516d07079e881bf109373eec24b22b", func := "rexmill/rexmilllaw08.BackAlone", spec := "backAlone", unfollowed := true, recurses := true, apart := false, narrowed := true }
def BackAloneUptoSaid : Prop := backAloneUptoRow.holds Try.pinned (OpenSpec.upto backAloneSpec)

end Rows
end Go.Proofs.Ytilapneoohcplaa
