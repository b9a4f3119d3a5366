/-
  No cell of these rows narrows 'for every input' (looked for: loops, veiled, ifaces, maps, wideKeys, modest, calm, conditions, laid).
  DERIVED. THE GIVEN ROWS OF THIS SEAT. 3 by the template 'for every input the law returns true; each argument reads behind the call as it read before'; 0 by the template 'total and deterministic' (their statements: YtfmdmlfhigocaaaTotals.lean).
  GIVEN WITH THE SEED: the statements are not yours to turn. If you find one false, say at which input.
  Laid BY PROGRAM, IN A SANDBOX (cutbox-rows.mjs): the forced cells as the released guide's own fill.sh prints them over the translation 5723157c2cac55d8… (all of the seat's roots in one cut). By AI agents, Wed Nov 11 2026. No macro, syntax, notation, axiom, sorry.
-/
import Derived.Test.YtfmdmlfhigocaaaChecked
import GoSem.Claim
import GoSem.ClaimJoined
import GoSem.ClaimMapViews
import Derived.JoinedTies
import Derived.KernelRfl
namespace Go.Proofs.Ytfmdmlfhigocaaa
/- THE CELL 'sum', in the pinned program and in every row, IS THE sha256 OF THE DUMP (.gsa) THAT YtfmdmlfhigocaaaProg.lean LOADS. Nothing in Lean hashes anything: it is a label: what it is worth is what the hold of that sum in a sandbox is worth. -/
noncomputable def Try.pinned : Pinned := { name := "ytfmdmlfhigocaaa", sum := "5723157c2cac55d8faaef97549e254d1c4108e3938a2a7f43e597ee8887e8f73", checked := Try.checked }
namespace Rows
def none {H : Type} : Left H := { results := [], args := [] }

/-- 'rexmilllaw14.OracleRuns': WHATEVER THE INPUT: true; the input reads as it did. -/
def oracleRunsSpec : ChangeSpec := { name := "oracleRuns", fn := fun _ => fun
  | [d1, d2, d3, d4, d5] => { results := [.lit (.bool true)], args := [d1, d2, d3, d4, d5] }
  | _ => none }
def oracleRunsRow : OpenClaim := { program := "ytfmdmlfhigocaaa", sum := "5723157c2cac55d8faaef97549e254d1c4108e3938a2a7f43e597ee8887e8f73", func := "rexmill/rexmilllaw14.OracleRuns", spec := "oracleRuns", unfollowed := true, recurses := true, apart := false }
def OracleRunsSaid : Prop := oracleRunsRow.holds Try.pinned (OpenSpec.ofChange oracleRunsSpec)

/-- ITS FALSE NEIGHBOUR: 'it returns false'. Refute it at one input. -/
def oracleRunsWrong : ChangeSpec := { name := "oracleRuns", fn := fun _ => fun
  | [d1, d2, d3, d4, d5] => { results := [.lit (.bool false)], args := [d1, d2, d3, d4, d5] }
  | _ => none }
def OracleRunsWrongFalsely : Prop := oracleRunsRow.holds Try.pinned (OpenSpec.ofChange oracleRunsWrong)

/-- 'rexmilllaw14.OracleFar': WHATEVER THE INPUT: true; the input reads as it did. -/
def oracleFarSpec : ChangeSpec := { name := "oracleFar", fn := fun _ => fun
  | [d1, d2, d3, d4] => { results := [.lit (.bool true)], args := [d1, d2, d3, d4] }
  | _ => none }
def oracleFarRow : OpenClaim := { program := "ytfmdmlfhigocaaa", sum := "5723157c2cac55d8faaef97549e254d1c4108e3938a2a7f43e597ee8887e8f73", func := "rexmill/rexmilllaw14.OracleFar", spec := "oracleFar", unfollowed := true, recurses := true, apart := false }
def OracleFarSaid : Prop := oracleFarRow.holds Try.pinned (OpenSpec.ofChange oracleFarSpec)

/-- ITS FALSE NEIGHBOUR: 'it returns false'. Refute it at one input. -/
def oracleFarWrong : ChangeSpec := { name := "oracleFar", fn := fun _ => fun
  | [d1, d2, d3, d4] => { results := [.lit (.bool false)], args := [d1, d2, d3, d4] }
  | _ => none }
def OracleFarWrongFalsely : Prop := oracleFarRow.holds Try.pinned (OpenSpec.ofChange oracleFarWrong)

/-- 'rexmilllaw14.OracleNegates': WHATEVER THE INPUT: true; the input reads as it did. -/
def oracleNegatesSpec : ChangeSpec := { name := "oracleNegates", fn := fun _ => fun
  | [d1, d2, d3] => { results := [.lit (.bool true)], args := [d1, d2, d3] }
  | _ => none }
def oracleNegatesRow : OpenClaim := { program := "ytfmdmlfhigocaaa", sum := "5723157c2cac55d8faaef97549e254d1c4108e3938a2a7f43e597ee8887e8f73", func := "rexmill/rexmilllaw14.OracleNegates", spec := "oracleNegates", unfollowed := true, recurses := true, apart := false }
def OracleNegatesSaid : Prop := oracleNegatesRow.holds Try.pinned (OpenSpec.ofChange oracleNegatesSpec)

/-- ITS FALSE NEIGHBOUR: 'it returns false'. Refute it at one input. -/
def oracleNegatesWrong : ChangeSpec := { name := "oracleNegates", fn := fun _ => fun
  | [d1, d2, d3] => { results := [.lit (.bool false)], args := [d1, d2, d3] }
  | _ => none }
def OracleNegatesWrongFalsely : Prop := oracleNegatesRow.holds Try.pinned (OpenSpec.ofChange oracleNegatesWrong)

/- THE SECOND FORM. 'bulk': how many values and letters a reading holds, each counted each time it is reached (what is shared counts as often as it is met; a slice's spare places count too). A statement '..UptoSaid' is the law's where the arguments, and the package variables that the reading takes, are together of bulk at most 1048576: NARROWER than '..Said'. Prove '..Said' where nothing that the law and all that it calls make is longer than what came in: it says more and counts as full. Else prove '..UptoSaid'. A law counts once. -/
mutual
def uptoBulk {H : Type} : DataW H → Nat
  | .lit (.string bytes) => bytes.length + 1
  | .lit _ => 1
  | .nil => 1
  | .ptr d => uptoBulk d + 1
  | .slice elems spare => uptoBulkAll elems + uptoBulkAll spare + 1
  | .agg parts => uptoBulkAll parts + 1
  | .iface _ d => uptoBulk d + 1
  | .map entries => uptoBulkEntries entries + 1
  | .held _ => 1
def uptoBulkAll {H : Type} : List (DataW H) → Nat
  | [] => 0
  | d :: r => uptoBulk d + uptoBulkAll r
def uptoBulkEntries {H : Type} : List (Lit × DataW H) → Nat
  | [] => 0
  | x :: r => uptoBulkEntry x + uptoBulkEntries r
def uptoBulkEntry {H : Type} : Lit × DataW H → Nat
  | (.string bytes, d) => bytes.length + uptoBulk d + 1
  | (_, d) => uptoBulk d + 1
 end
def uptoSmall : (H : Type) → List (DataW H) → Bool := fun _ ds => decide (uptoBulkAll ds ≤ 1048576)
def OpenSpec.upto (s : _root_.Go.ChangeSpec) : _root_.Go.OpenSpec := { _root_.Go.OpenSpec.ofChange s with cond := some uptoSmall }

/-- 'rexmilllaw14.OracleRuns', WHERE WHAT IT READS IS OF BULK AT MOST 1048576: true; the input reads as it did. -/
def oracleRunsUptoRow : OpenClaim := { program := "ytfmdmlfhigocaaa", sum := "5723157c2cac55d8faaef97549e254d1c4108e3938a2a7f43e597ee8887e8f73", func := "rexmill/rexmilllaw14.OracleRuns", spec := "oracleRuns", unfollowed := true, recurses := true, apart := false, narrowed := true }
def OracleRunsUptoSaid : Prop := oracleRunsUptoRow.holds Try.pinned (OpenSpec.upto oracleRunsSpec)

/-- 'rexmilllaw14.OracleFar', WHERE WHAT IT READS IS OF BULK AT MOST 1048576: true; the input reads as it did. -/
def oracleFarUptoRow : OpenClaim := { program := "ytfmdmlfhigocaaa", sum := "5723157c2cac55d8faaef97549e254d1c4108e3938a2a7f43e597ee8887e8f73", func := "rexmill/rexmilllaw14.OracleFar", spec := "oracleFar", unfollowed := true, recurses := true, apart := false, narrowed := true }
def OracleFarUptoSaid : Prop := oracleFarUptoRow.holds Try.pinned (OpenSpec.upto oracleFarSpec)

/-- 'rexmilllaw14.OracleNegates', WHERE WHAT IT READS IS OF BULK AT MOST 1048576: true; the input reads as it did. -/
def oracleNegatesUptoRow : OpenClaim := { program := "ytfmdmlfhigocaaa", sum := "5723157c2cac55d8faaef97549e254d1c4108e3938a2a7f43e597ee8887e8f73", func := "rexmill/rexmilllaw14.OracleNegates", spec := "oracleNegates", unfollowed := true, recurses := true, apart := false, narrowed := true }
def OracleNegatesUptoSaid : Prop := oracleNegatesUptoRow.holds Try.pinned (OpenSpec.upto oracleNegatesSpec)

end Rows
end Go.Proofs.Ytfmdmlfhigocaaa
