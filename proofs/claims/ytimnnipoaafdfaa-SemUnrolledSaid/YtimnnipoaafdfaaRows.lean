/-
  No cell of these rows narrows 'for every input' (looked for: loops, veiled, ifaces, maps, wideKeys, modest, calm, conditions, laid).
  DERIVED. THE GIVEN ROWS OF THIS SEAT. 7 by the template 'for every input the law returns true; each argument reads behind the call as it read before'; 0 by the template 'total and deterministic' (their statements: YtimnnipoaafdfaaTotals.lean).
  GIVEN WITH THE SEED: the statements are not yours to turn. If you find one false, say at which input.
  Laid BY PROGRAM, IN A SANDBOX (cutbox-rows.mjs): the forced cells as the released guide's own fill.sh prints them over the translation 345d2a310e4b80a6… (all of the seat's roots in one cut). By AI agents, Wed Nov 11 2026. No macro, syntax, notation, axiom, sorry.
-/
import Derived.Test.YtimnnipoaafdfaaChecked
import GoSem.Claim
import GoSem.ClaimJoined
import GoSem.ClaimMapViews
import Derived.JoinedTies
import Derived.KernelRfl
namespace Go.Proofs.Ytimnnipoaafdfaa
/- THE CELL 'sum', in the pinned program and in every row, IS THE sha256 OF THE DUMP (.gsa) THAT YtimnnipoaafdfaaProg.lean LOADS. Nothing in Lean hashes anything: it is a label: what it is worth is what the hold of that sum in a sandbox is worth. -/
noncomputable def Try.pinned : Pinned := { name := "ytimnnipoaafdfaa", sum := "345d2a310e4b80a63cc63c6e714c5a6fa82234dae2cdd39a4b574da59f5be1fa", checked := Try.checked }
namespace Rows
def none {H : Type} : Left H := { results := [], args := [] }

/-- 'rexmilllaw07.SemAll': WHATEVER THE INPUT: true; the input reads as it did. -/
def semAllSpec : ChangeSpec := { name := "semAll", fn := fun _ => fun
  | [d1, d2, d3, d4, d5] => { results := [.lit (.bool true)], args := [d1, d2, d3, d4, d5] }
  | _ => none }
def semAllRow : OpenClaim := { program := "ytimnnipoaafdfaa", sum := "345d2a310e4b80a63cc63c6e714c5a6fa82234dae2cdd39a4b574da59f5be1fa", func := "rexmill/rexmilllaw07.SemAll", spec := "semAll", unfollowed := true, recurses := true, apart := false }
def SemAllSaid : Prop := semAllRow.holds Try.pinned (OpenSpec.ofChange semAllSpec)

/-- ITS FALSE NEIGHBOUR: 'it returns false'. Refute it at one input. -/
def semAllWrong : ChangeSpec := { name := "semAll", fn := fun _ => fun
  | [d1, d2, d3, d4, d5] => { results := [.lit (.bool false)], args := [d1, d2, d3, d4, d5] }
  | _ => none }
def SemAllWrongFalsely : Prop := semAllRow.holds Try.pinned (OpenSpec.ofChange semAllWrong)

/-- 'rexmilllaw07.SemPrefix': WHATEVER THE INPUT: true; the input reads as it did. -/
def semPrefixSpec : ChangeSpec := { name := "semPrefix", fn := fun _ => fun
  | [d1, d2, d3, d4] => { results := [.lit (.bool true)], args := [d1, d2, d3, d4] }
  | _ => none }
def semPrefixRow : OpenClaim := { program := "ytimnnipoaafdfaa", sum := "345d2a310e4b80a63cc63c6e714c5a6fa82234dae2cdd39a4b574da59f5be1fa", func := "rexmill/rexmilllaw07.SemPrefix", spec := "semPrefix", unfollowed := true, recurses := true, apart := false }
def SemPrefixSaid : Prop := semPrefixRow.holds Try.pinned (OpenSpec.ofChange semPrefixSpec)

/-- ITS FALSE NEIGHBOUR: 'it returns false'. Refute it at one input. -/
def semPrefixWrong : ChangeSpec := { name := "semPrefix", fn := fun _ => fun
  | [d1, d2, d3, d4] => { results := [.lit (.bool false)], args := [d1, d2, d3, d4] }
  | _ => none }
def SemPrefixWrongFalsely : Prop := semPrefixRow.holds Try.pinned (OpenSpec.ofChange semPrefixWrong)

/-- 'rexmilllaw07.SemParts': WHATEVER THE INPUT: true; the input reads as it did. -/
def semPartsSpec : ChangeSpec := { name := "semParts", fn := fun _ => fun
  | [d1, d2, d3, d4, d5] => { results := [.lit (.bool true)], args := [d1, d2, d3, d4, d5] }
  | _ => none }
def semPartsRow : OpenClaim := { program := "ytimnnipoaafdfaa", sum := "345d2a310e4b80a63cc63c6e714c5a6fa82234dae2cdd39a4b574da59f5be1fa", func := "rexmill/rexmilllaw07.SemParts", spec := "semParts", unfollowed := true, recurses := true, apart := false }
def SemPartsSaid : Prop := semPartsRow.holds Try.pinned (OpenSpec.ofChange semPartsSpec)

/-- ITS FALSE NEIGHBOUR: 'it returns false'. Refute it at one input. -/
def semPartsWrong : ChangeSpec := { name := "semParts", fn := fun _ => fun
  | [d1, d2, d3, d4, d5] => { results := [.lit (.bool false)], args := [d1, d2, d3, d4, d5] }
  | _ => none }
def SemPartsWrongFalsely : Prop := semPartsRow.holds Try.pinned (OpenSpec.ofChange semPartsWrong)

/-- 'rexmilllaw07.SemFirst': WHATEVER THE INPUT: true; the input reads as it did. -/
def semFirstSpec : ChangeSpec := { name := "semFirst", fn := fun _ => fun
  | [d1, d2, d3, d4] => { results := [.lit (.bool true)], args := [d1, d2, d3, d4] }
  | _ => none }
def semFirstRow : OpenClaim := { program := "ytimnnipoaafdfaa", sum := "345d2a310e4b80a63cc63c6e714c5a6fa82234dae2cdd39a4b574da59f5be1fa", func := "rexmill/rexmilllaw07.SemFirst", spec := "semFirst", unfollowed := true, recurses := true, apart := false }
def SemFirstSaid : Prop := semFirstRow.holds Try.pinned (OpenSpec.ofChange semFirstSpec)

/-- ITS FALSE NEIGHBOUR: 'it returns false'. Refute it at one input. -/
def semFirstWrong : ChangeSpec := { name := "semFirst", fn := fun _ => fun
  | [d1, d2, d3, d4] => { results := [.lit (.bool false)], args := [d1, d2, d3, d4] }
  | _ => none }
def SemFirstWrongFalsely : Prop := semFirstRow.holds Try.pinned (OpenSpec.ofChange semFirstWrong)

/-- 'rexmilllaw07.SemLocal': WHATEVER THE INPUT: true; the input reads as it did. -/
def semLocalSpec : ChangeSpec := { name := "semLocal", fn := fun _ => fun
  | [d1, d2, d3, d4] => { results := [.lit (.bool true)], args := [d1, d2, d3, d4] }
  | _ => none }
def semLocalRow : OpenClaim := { program := "ytimnnipoaafdfaa", sum := "345d2a310e4b80a63cc63c6e714c5a6fa82234dae2cdd39a4b574da59f5be1fa", func := "rexmill/rexmilllaw07.SemLocal", spec := "semLocal", unfollowed := true, recurses := true, apart := false }
def SemLocalSaid : Prop := semLocalRow.holds Try.pinned (OpenSpec.ofChange semLocalSpec)

/-- ITS FALSE NEIGHBOUR: 'it returns false'. Refute it at one input. -/
def semLocalWrong : ChangeSpec := { name := "semLocal", fn := fun _ => fun
  | [d1, d2, d3, d4] => { results := [.lit (.bool false)], args := [d1, d2, d3, d4] }
  | _ => none }
def SemLocalWrongFalsely : Prop := semLocalRow.holds Try.pinned (OpenSpec.ofChange semLocalWrong)

/-- 'rexmilllaw07.SemSpans': WHATEVER THE INPUT: true; the input reads as it did. -/
def semSpansSpec : ChangeSpec := { name := "semSpans", fn := fun _ => fun
  | [d1, d2, d3] => { results := [.lit (.bool true)], args := [d1, d2, d3] }
  | _ => none }
def semSpansRow : OpenClaim := { program := "ytimnnipoaafdfaa", sum := "345d2a310e4b80a63cc63c6e714c5a6fa82234dae2cdd39a4b574da59f5be1fa", func := "rexmill/rexmilllaw07.SemSpans", spec := "semSpans", unfollowed := true, recurses := true, apart := false }
def SemSpansSaid : Prop := semSpansRow.holds Try.pinned (OpenSpec.ofChange semSpansSpec)

/-- ITS FALSE NEIGHBOUR: 'it returns false'. Refute it at one input. -/
def semSpansWrong : ChangeSpec := { name := "semSpans", fn := fun _ => fun
  | [d1, d2, d3] => { results := [.lit (.bool false)], args := [d1, d2, d3] }
  | _ => none }
def SemSpansWrongFalsely : Prop := semSpansRow.holds Try.pinned (OpenSpec.ofChange semSpansWrong)

/-- 'rexmilllaw07.SemUnrolled': WHATEVER THE INPUT: true; the input reads as it did. -/
def semUnrolledSpec : ChangeSpec := { name := "semUnrolled", fn := fun _ => fun
  | [d1, d2, d3] => { results := [.lit (.bool true)], args := [d1, d2, d3] }
  | _ => none }
def semUnrolledRow : OpenClaim := { program := "ytimnnipoaafdfaa", sum := "345d2a310e4b80a63cc63c6e714c5a6fa82234dae2cdd39a4b574da59f5be1fa", func := "rexmill/rexmilllaw07.SemUnrolled", spec := "semUnrolled", unfollowed := true, recurses := true, apart := false }
def SemUnrolledSaid : Prop := semUnrolledRow.holds Try.pinned (OpenSpec.ofChange semUnrolledSpec)

/-- ITS FALSE NEIGHBOUR: 'it returns false'. Refute it at one input. -/
def semUnrolledWrong : ChangeSpec := { name := "semUnrolled", fn := fun _ => fun
  | [d1, d2, d3] => { results := [.lit (.bool false)], args := [d1, d2, d3] }
  | _ => none }
def SemUnrolledWrongFalsely : Prop := semUnrolledRow.holds Try.pinned (OpenSpec.ofChange semUnrolledWrong)

/- THE SECOND FORM. 'bulk': how many values and letters a reading holds, each counted each time it is reached (what is shared counts as often as it is met; a slice's spare places count too). A statement '..UptoSaid' is the law's where the arguments, and the package variables that the reading takes, are together of bulk at most 1048576: NARROWER than '..Said'. Prove '..Said' where nothing that the law and all that it calls make is longer than what came in: it says more and counts as full. Else prove '..UptoSaid'. A law counts once. -/
mutual
def uptoBulk {H : Type} : DataW H → Nat
  | .lit (.string bytes) => bytes.length + 1
  | .lit _ => 1
  | .nil => 1
  | .ptr d => uptoBulk d + 1
  | .slice elems spare => uptoBulkAll elems + uptoBulkAll spare + 1
  | .agg parts => uptoBulkAll parts + 1
  | .iface _ d => uptoBulk d + 1
  | .map entries => uptoBulkEntries entries + 1
  | .held _ => 1
def uptoBulkAll {H : Type} : List (DataW H) → Nat
  | [] => 0
  | d :: r => uptoBulk d + uptoBulkAll r
def uptoBulkEntries {H : Type} : List (Lit × DataW H) → Nat
  | [] => 0
  | x :: r => uptoBulkEntry x + uptoBulkEntries r
def uptoBulkEntry {H : Type} : Lit × DataW H → Nat
  | (.string bytes, d) => bytes.length + uptoBulk d + 1
  | (_, d) => uptoBulk d + 1
 end
def uptoSmall : (H : Type) → List (DataW H) → Bool := fun _ ds => decide (uptoBulkAll ds ≤ 1048576)
def OpenSpec.upto (s : _root_.Go.ChangeSpec) : _root_.Go.OpenSpec := { _root_.Go.OpenSpec.ofChange s with cond := some uptoSmall }

/-- 'rexmilllaw07.SemAll', WHERE WHAT IT READS IS OF BULK AT MOST 1048576: true; the input reads as it did. -/
def semAllUptoRow : OpenClaim := { program := "ytimnnipoaafdfaa", sum := "345d2a310e4b80a63cc63c6e714c5a6fa82234dae2cdd39a4b574da59f5be1fa", func := "rexmill/rexmilllaw07.SemAll", spec := "semAll", unfollowed := true, recurses := true, apart := false, narrowed := true }
def SemAllUptoSaid : Prop := semAllUptoRow.holds Try.pinned (OpenSpec.upto semAllSpec)

/-- 'rexmilllaw07.SemPrefix', WHERE WHAT IT READS IS OF BULK AT MOST 1048576: true; the input reads as it did. -/
def semPrefixUptoRow : OpenClaim := { program := "ytimnnipoaafdfaa", sum := "345d2a310e4b80a63cc63c6e714c5a6fa82234dae2cdd39a4b574da59f5be1fa", func := "rexmill/rexmilllaw07.SemPrefix", spec := "semPrefix", unfollowed := true, recurses := true, apart := false, narrowed := true }
def SemPrefixUptoSaid : Prop := semPrefixUptoRow.holds Try.pinned (OpenSpec.upto semPrefixSpec)

/-- 'rexmilllaw07.SemParts', WHERE WHAT IT READS IS OF BULK AT MOST 1048576: true; the input reads as it did. -/
def semPartsUptoRow : OpenClaim := { program := "ytimnnipoaafdfaa", sum := "345d2a310e4b80a63cc63c6e714c5a6fa82234dae2cdd39a4b574da59f5be1fa", func := "rexmill/rexmilllaw07.SemParts", spec := "semParts", unfollowed := true, recurses := true, apart := false, narrowed := true }
def SemPartsUptoSaid : Prop := semPartsUptoRow.holds Try.pinned (OpenSpec.upto semPartsSpec)

/-- 'rexmilllaw07.SemFirst', WHERE WHAT IT READS IS OF BULK AT MOST 1048576: true; the input reads as it did. -/
def semFirstUptoRow : OpenClaim := { program := "ytimnnipoaafdfaa", sum := "345d2a310e4b80a63cc63c6e714c5a6fa82234dae2cdd39a4b574da59f5be1fa", func := "rexmill/rexmilllaw07.SemFirst", spec := "semFirst", unfollowed := true, recurses := true, apart := false, narrowed := true }
def SemFirstUptoSaid : Prop := semFirstUptoRow.holds Try.pinned (OpenSpec.upto semFirstSpec)

/-- 'rexmilllaw07.SemLocal', WHERE WHAT IT READS IS OF BULK AT MOST 1048576: true; the input reads as it did. -/
def semLocalUptoRow : OpenClaim := { program := "ytimnnipoaafdfaa", sum := "345d2a310e4b80a63cc63c6e714c5a6fa82234dae2cdd39a4b574da59f5be1fa", func := "rexmill/rexmilllaw07.SemLocal", spec := "semLocal", unfollowed := true, recurses := true, apart := false, narrowed := true }
def SemLocalUptoSaid : Prop := semLocalUptoRow.holds Try.pinned (OpenSpec.upto semLocalSpec)

/-- 'rexmilllaw07.SemSpans', WHERE WHAT IT READS IS OF BULK AT MOST 1048576: true; the input reads as it did. -/
def semSpansUptoRow : OpenClaim := { program := "ytimnnipoaafdfaa", sum := "345d2a310e4b80a63cc63c6e714c5a6fa82234dae2cdd39a4b574da59f5be1fa", func := "rexmill/rexmilllaw07.SemSpans", spec := "semSpans", unfollowed := true, recurses := true, apart := false, narrowed := true }
def SemSpansUptoSaid : Prop := semSpansUptoRow.holds Try.pinned (OpenSpec.upto semSpansSpec)

/-- 'rexmilllaw07.SemUnrolled', WHERE WHAT IT READS IS OF BULK AT MOST 1048576: true; the input reads as it did. -/
def semUnrolledUptoRow : OpenClaim := { program := "ytimnnipoaafdfaa", sum := "345d2a310e4b80a63cc63c6e714c5a6fa82234dae2cdd39a4b574da59f5be1fa", func := "rexmill/rexmilllaw07.SemUnrolled", spec := "semUnrolled", unfollowed := true, recurses := true, apart := false, narrowed := true }
def SemUnrolledUptoSaid : Prop := semUnrolledUptoRow.holds Try.pinned (OpenSpec.upto semUnrolledSpec)

end Rows
end Go.Proofs.Ytimnnipoaafdfaa
