/-
  No cell of these rows narrows 'for every input' (looked for: loops, veiled, ifaces, maps, wideKeys, modest, calm, conditions, laid).
  DERIVED. THE GIVEN ROWS OF THIS SEAT. 9 by the template 'for every input the law returns true; each argument reads behind the call as it read before'; 0 by the template 'total and deterministic' (their statements: YtafbdphblilenaaTotals.lean).
  GIVEN WITH THE SEED: the statements are not yours to turn. If you find one false, say at which input.
  Laid BY PROGRAM, IN A SANDBOX (cutbox-rows.mjs): the forced cells as the released guide's own fill.sh prints them over the translation 2c1e8647dab528cf… (all of the seat's roots in one cut). By AI agents, Wed Nov 11 2026. No macro, syntax, notation, axiom, sorry.
-/
import Derived.Test.YtafbdphblilenaaChecked
import GoSem.Claim
import GoSem.ClaimJoined
import GoSem.ClaimMapViews
import Derived.JoinedTies
import Derived.KernelRfl
namespace Go.Proofs.Ytafbdphblilenaa
/- THE CELL 'sum', in the pinned program and in every row, IS THE sha256 OF THE DUMP (.gsa) THAT YtafbdphblilenaaProg.lean LOADS. Nothing in Lean hashes anything: it is a label: what it is worth is what the hold of that sum in a sandbox is worth. -/
noncomputable def Try.pinned : Pinned := { name := "ytafbdphblilenaa", sum := "2c1e8647dab528cf7331c3d7b1c98b07c2b8b4141238f9f08d7219d407d6a265", checked := Try.checked }
namespace Rows
def none {H : Type} : Left H := { results := [], args := [] }

/-- 'rexmilllaw05.AstLengths': WHATEVER THE INPUT: true; the input reads as it did. -/
def astLengthsSpec : ChangeSpec := { name := "astLengths", fn := fun _ => fun
  | [d1, d2] => { results := [.lit (.bool true)], args := [d1, d2] }
  | _ => none }
def astLengthsRow : OpenClaim := { program := "ytafbdphblilenaa", sum := "2c1e8647dab528cf7331c3d7b1c98b07c2b8b4141238f9f08d7219d407d6a265", func := "rexmill/rexmilllaw05.AstLengths", spec := "astLengths", unfollowed := true, recurses := true, apart := false }
def AstLengthsSaid : Prop := astLengthsRow.holds Try.pinned (OpenSpec.ofChange astLengthsSpec)

/-- ITS FALSE NEIGHBOUR: 'it returns false'. Refute it at one input. -/
def astLengthsWrong : ChangeSpec := { name := "astLengths", fn := fun _ => fun
  | [d1, d2] => { results := [.lit (.bool false)], args := [d1, d2] }
  | _ => none }
def AstLengthsWrongFalsely : Prop := astLengthsRow.holds Try.pinned (OpenSpec.ofChange astLengthsWrong)

/-- 'rexmilllaw05.AstPaths': WHATEVER THE INPUT: true; the input reads as it did. -/
def astPathsSpec : ChangeSpec := { name := "astPaths", fn := fun _ => fun
  | [d1, d2, d3, d4] => { results := [.lit (.bool true)], args := [d1, d2, d3, d4] }
  | _ => none }
def astPathsRow : OpenClaim := { program := "ytafbdphblilenaa", sum := "2c1e8647dab528cf7331c3d7b1c98b07c2b8b4141238f9f08d7219d407d6a265", func := "rexmill/rexmilllaw05.AstPaths", spec := "astPaths", unfollowed := true, recurses := true, apart := false }
def AstPathsSaid : Prop := astPathsRow.holds Try.pinned (OpenSpec.ofChange astPathsSpec)

/-- ITS FALSE NEIGHBOUR: 'it returns false'. Refute it at one input. -/
def astPathsWrong : ChangeSpec := { name := "astPaths", fn := fun _ => fun
  | [d1, d2, d3, d4] => { results := [.lit (.bool false)], args := [d1, d2, d3, d4] }
  | _ => none }
def AstPathsWrongFalsely : Prop := astPathsRow.holds Try.pinned (OpenSpec.ofChange astPathsWrong)

/-- 'rexmilllaw05.AstMeasures': WHATEVER THE INPUT: true; the input reads as it did. -/
def astMeasuresSpec : ChangeSpec := { name := "astMeasures", fn := fun _ => fun
  | [d1, d2, d3, d4] => { results := [.lit (.bool true)], args := [d1, d2, d3, d4] }
  | _ => none }
def astMeasuresRow : OpenClaim := { program := "ytafbdphblilenaa", sum := "2c1e8647dab528cf7331c3d7b1c98b07c2b8b4141238f9f08d7219d407d6a265", func := "rexmill/rexmilllaw05.AstMeasures", spec := "astMeasures", unfollowed := true, recurses := true, apart := false }
def AstMeasuresSaid : Prop := astMeasuresRow.holds Try.pinned (OpenSpec.ofChange astMeasuresSpec)

/-- ITS FALSE NEIGHBOUR: 'it returns false'. Refute it at one input. -/
def astMeasuresWrong : ChangeSpec := { name := "astMeasures", fn := fun _ => fun
  | [d1, d2, d3, d4] => { results := [.lit (.bool false)], args := [d1, d2, d3, d4] }
  | _ => none }
def AstMeasuresWrongFalsely : Prop := astMeasuresRow.holds Try.pinned (OpenSpec.ofChange astMeasuresWrong)

/-- 'rexmilllaw05.AstExpands': WHATEVER THE INPUT: true; the input reads as it did. -/
def astExpandsSpec : ChangeSpec := { name := "astExpands", fn := fun _ => fun
  | [d1, d2, d3, d4] => { results := [.lit (.bool true)], args := [d1, d2, d3, d4] }
  | _ => none }
def astExpandsRow : OpenClaim := { program := "ytafbdphblilenaa", sum := "2c1e8647dab528cf7331c3d7b1c98b07c2b8b4141238f9f08d7219d407d6a265", func := "rexmill/rexmilllaw05.AstExpands", spec := "astExpands", unfollowed := true, recurses := true, apart := false }
def AstExpandsSaid : Prop := astExpandsRow.holds Try.pinned (OpenSpec.ofChange astExpandsSpec)

/-- ITS FALSE NEIGHBOUR: 'it returns false'. Refute it at one input. -/
def astExpandsWrong : ChangeSpec := { name := "astExpands", fn := fun _ => fun
  | [d1, d2, d3, d4] => { results := [.lit (.bool false)], args := [d1, d2, d3, d4] }
  | _ => none }
def AstExpandsWrongFalsely : Prop := astExpandsRow.holds Try.pinned (OpenSpec.ofChange astExpandsWrong)

/-- 'rexmilllaw05.AstCompares': WHATEVER THE INPUT: true; the input reads as it did. -/
def astComparesSpec : ChangeSpec := { name := "astCompares", fn := fun _ => fun
  | [d1, d2, d3, d4, d5] => { results := [.lit (.bool true)], args := [d1, d2, d3, d4, d5] }
  | _ => none }
def astComparesRow : OpenClaim := { program := "ytafbdphblilenaa", sum := "2c1e8647dab528cf7331c3d7b1c98b07c2b8b4141238f9f08d7219d407d6a265", func := "rexmill/rexmilllaw05.AstCompares", spec := "astCompares", unfollowed := true, recurses := true, apart := false }
def AstComparesSaid : Prop := astComparesRow.holds Try.pinned (OpenSpec.ofChange astComparesSpec)

/-- ITS FALSE NEIGHBOUR: 'it returns false'. Refute it at one input. -/
def astComparesWrong : ChangeSpec := { name := "astCompares", fn := fun _ => fun
  | [d1, d2, d3, d4, d5] => { results := [.lit (.bool false)], args := [d1, d2, d3, d4, d5] }
  | _ => none }
def AstComparesWrongFalsely : Prop := astComparesRow.holds Try.pinned (OpenSpec.ofChange astComparesWrong)

/-- 'rexmilllaw05.AstParts': WHATEVER THE INPUT: true; the input reads as it did. -/
def astPartsSpec : ChangeSpec := { name := "astParts", fn := fun _ => fun
  | [d1, d2, d3] => { results := [.lit (.bool true)], args := [d1, d2, d3] }
  | _ => none }
def astPartsRow : OpenClaim := { program := "ytafbdphblilenaa", sum := "2c1e8647dab528cf7331c3d7b1c98b07c2b8b4141238f9f08d7219d407d6a265", func := "rexmill/rexmilllaw05.AstParts", spec := "astParts", unfollowed := true, recurses := true, apart := false }
def AstPartsSaid : Prop := astPartsRow.holds Try.pinned (OpenSpec.ofChange astPartsSpec)

/-- ITS FALSE NEIGHBOUR: 'it returns false'. Refute it at one input. -/
def astPartsWrong : ChangeSpec := { name := "astParts", fn := fun _ => fun
  | [d1, d2, d3] => { results := [.lit (.bool false)], args := [d1, d2, d3] }
  | _ => none }
def AstPartsWrongFalsely : Prop := astPartsRow.holds Try.pinned (OpenSpec.ofChange astPartsWrong)

/-- 'rexmilllaw05.AstValid': WHATEVER THE INPUT: true; the input reads as it did. -/
def astValidSpec : ChangeSpec := { name := "astValid", fn := fun _ => fun
  | [d1, d2, d3, d4, d5] => { results := [.lit (.bool true)], args := [d1, d2, d3, d4, d5] }
  | _ => none }
def astValidRow : OpenClaim := { program := "ytafbdphblilenaa", sum := "2c1e8647dab528cf7331c3d7b1c98b07c2b8b4141238f9f08d7219d407d6a265", func := "rexmill/rexmilllaw05.AstValid", spec := "astValid", unfollowed := true, recurses := true, apart := false }
def AstValidSaid : Prop := astValidRow.holds Try.pinned (OpenSpec.ofChange astValidSpec)

/-- ITS FALSE NEIGHBOUR: 'it returns false'. Refute it at one input. -/
def astValidWrong : ChangeSpec := { name := "astValid", fn := fun _ => fun
  | [d1, d2, d3, d4, d5] => { results := [.lit (.bool false)], args := [d1, d2, d3, d4, d5] }
  | _ => none }
def AstValidWrongFalsely : Prop := astValidRow.holds Try.pinned (OpenSpec.ofChange astValidWrong)

/-- 'rexmilllaw05.AstOrder': WHATEVER THE INPUT: true; the input reads as it did. -/
def astOrderSpec : ChangeSpec := { name := "astOrder", fn := fun _ => fun
  | [d1, d2, d3, d4, d5] => { results := [.lit (.bool true)], args := [d1, d2, d3, d4, d5] }
  | _ => none }
def astOrderRow : OpenClaim := { program := "ytafbdphblilenaa", sum := "2c1e8647dab528cf7331c3d7b1c98b07c2b8b4141238f9f08d7219d407d6a265", func := "rexmill/rexmilllaw05.AstOrder", spec := "astOrder", unfollowed := true, recurses := true, apart := false }
def AstOrderSaid : Prop := astOrderRow.holds Try.pinned (OpenSpec.ofChange astOrderSpec)

/-- ITS FALSE NEIGHBOUR: 'it returns false'. Refute it at one input. -/
def astOrderWrong : ChangeSpec := { name := "astOrder", fn := fun _ => fun
  | [d1, d2, d3, d4, d5] => { results := [.lit (.bool false)], args := [d1, d2, d3, d4, d5] }
  | _ => none }
def AstOrderWrongFalsely : Prop := astOrderRow.holds Try.pinned (OpenSpec.ofChange astOrderWrong)

/-- 'rexmilllaw05.AstBytes': WHATEVER THE INPUT: true; the input reads as it did. -/
def astBytesSpec : ChangeSpec := { name := "astBytes", fn := fun _ => fun
  | [d1, d2, d3, d4, d5, d6] => { results := [.lit (.bool true)], args := [d1, d2, d3, d4, d5, d6] }
  | _ => none }
def astBytesRow : OpenClaim := { program := "ytafbdphblilenaa", sum := "2c1e8647dab528cf7331c3d7b1c98b07c2b8b4141238f9f08d7219d407d6a265", func := "rexmill/rexmilllaw05.AstBytes", spec := "astBytes", unfollowed := true, recurses := true, apart := false }
def AstBytesSaid : Prop := astBytesRow.holds Try.pinned (OpenSpec.ofChange astBytesSpec)

/-- ITS FALSE NEIGHBOUR: 'it returns false'. Refute it at one input. -/
def astBytesWrong : ChangeSpec := { name := "astBytes", fn := fun _ => fun
  | [d1, d2, d3, d4, d5, d6] => { results := [.lit (.bool false)], args := [d1, d2, d3, d4, d5, d6] }
  | _ => none }
def AstBytesWrongFalsely : Prop := astBytesRow.holds Try.pinned (OpenSpec.ofChange astBytesWrong)

/- THE SECOND FORM. 'bulk': how many values and letters a reading holds, each counted each time it is reached (what is shared counts as often as it is met; a slice's spare places count too). A statement '..UptoSaid' is the law's where the arguments, and the package variables that the reading takes, are together of bulk at most 1048576: NARROWER than '..Said'. Prove '..Said' where nothing that the law and all that it calls make is longer than what came in: it says more and counts as full. Else prove '..UptoSaid'. A law counts once. -/
mutual
def uptoBulk {H : Type} : DataW H → Nat
  | .lit (.string bytes) => bytes.length + 1
  | .lit _ => 1
  | .nil => 1
  | .ptr d => uptoBulk d + 1
  | .slice elems spare => uptoBulkAll elems + uptoBulkAll spare + 1
  | .agg parts => uptoBulkAll parts + 1
  | .iface _ d => uptoBulk d + 1
  | .map entries => uptoBulkEntries entries + 1
  | .held _ => 1
def uptoBulkAll {H : Type} : List (DataW H) → Nat
  | [] => 0
  | d :: r => uptoBulk d + uptoBulkAll r
def uptoBulkEntries {H : Type} : List (Lit × DataW H) → Nat
  | [] => 0
  | x :: r => uptoBulkEntry x + uptoBulkEntries r
def uptoBulkEntry {H : Type} : Lit × DataW H → Nat
  | (.string bytes, d) => bytes.length + uptoBulk d + 1
  | (_, d) => uptoBulk d + 1
 end
def uptoSmall : (H : Type) → List (DataW H) → Bool := fun _ ds => decide (uptoBulkAll ds ≤ 1048576)
def OpenSpec.upto (s : _root_.Go.ChangeSpec) : _root_.Go.OpenSpec := { _root_.Go.OpenSpec.ofChange s with cond := some uptoSmall }

/-- 'rexmilllaw05.AstLengths', WHERE WHAT IT READS IS OF BULK AT MOST 1048576: true; the input reads as it did. -/
def astLengthsUptoRow : OpenClaim := { program := "ytafbdphblilenaa", sum := "2c1e8647dab528cf7331c3d7b1c98b07c2b8b4141238f9f08d7219d407d6a265", func := "rexmill/rexmilllaw05.AstLengths", spec := "astLengths", unfollowed := true, recurses := true, apart := false, narrowed := true }
def AstLengthsUptoSaid : Prop := astLengthsUptoRow.holds Try.pinned (OpenSpec.upto astLengthsSpec)

/-- 'rexmilllaw05.AstPaths', WHERE WHAT IT READS IS OF BULK AT MOST 1048576: true; the input reads as it did. -/
def astPathsUptoRow : OpenClaim := { program := "ytafbdphblilenaa", sum := "2c1e8647dab528cf7331c3d7b1c98b07c2b8b4141238f9f08d7219d407d6a265", func := "rexmill/rexmilllaw05.AstPaths", spec := "astPaths", unfollowed := true, recurses := true, apart := false, narrowed := true }
def AstPathsUptoSaid : Prop := astPathsUptoRow.holds Try.pinned (OpenSpec.upto astPathsSpec)

/-- 'rexmilllaw05.AstMeasures', WHERE WHAT IT READS IS OF BULK AT MOST 1048576: true; the input reads as it did. -/
def astMeasuresUptoRow : OpenClaim := { program := "ytafbdphblilenaa", sum := "2c1e8647dab528cf7331c3d7b1c98b07c2b8b4141238f9f08d7219d407d6a265", func := "rexmill/rexmilllaw05.AstMeasures", spec := "astMeasures", unfollowed := true, recurses := true, apart := false, narrowed := true }
def AstMeasuresUptoSaid : Prop := astMeasuresUptoRow.holds Try.pinned (OpenSpec.upto astMeasuresSpec)

/-- 'rexmilllaw05.AstExpands', WHERE WHAT IT READS IS OF BULK AT MOST 1048576: true; the input reads as it did. -/
def astExpandsUptoRow : OpenClaim := { program := "ytafbdphblilenaa", sum := "2c1e8647dab528cf7331c3d7b1c98b07c2b8b4141238f9f08d7219d407d6a265", func := "rexmill/rexmilllaw05.AstExpands", spec := "astExpands", unfollowed := true, recurses := true, apart := false, narrowed := true }
def AstExpandsUptoSaid : Prop := astExpandsUptoRow.holds Try.pinned (OpenSpec.upto astExpandsSpec)

/-- 'rexmilllaw05.AstCompares', WHERE WHAT IT READS IS OF BULK AT MOST 1048576: true; the input reads as it did. -/
def astComparesUptoRow : OpenClaim := { program := "ytafbdphblilenaa", sum := "2c1e8647dab528cf7331c3d7b1c98b07c2b8b4141238f9f08d7219d407d6a265", func := "rexmill/rexmilllaw05.AstCompares", spec := "astCompares", unfollowed := true, recurses := true, apart := false, narrowed := true }
def AstComparesUptoSaid : Prop := astComparesUptoRow.holds Try.pinned (OpenSpec.upto astComparesSpec)

/-- 'rexmilllaw05.AstParts', WHERE WHAT IT READS IS OF BULK AT MOST 1048576: true; the input reads as it did. -/
def astPartsUptoRow : OpenClaim := { program := "ytafbdphblilenaa", sum := "2c1e8647dab528cf7331c3d7b1c98b07c2b8b4141238f9f08d7219d407d6a265", func := "rexmill/rexmilllaw05.AstParts", spec := "astParts", unfollowed := true, recurses := true, apart := false, narrowed := true }
def AstPartsUptoSaid : Prop := astPartsUptoRow.holds Try.pinned (OpenSpec.upto astPartsSpec)

/-- 'rexmilllaw05.AstValid', WHERE WHAT IT READS IS OF BULK AT MOST 1048576: true; the input reads as it did. -/
def astValidUptoRow : OpenClaim := { program := "ytafbdphblilenaa", sum := "2c1e8647dab528cf7331c3d7b1c98b07c2b8b4141238f9f08d7219d407d6a265", func := "rexmill/rexmilllaw05.AstValid", spec := "astValid", unfollowed := true, recurses := true, apart := false, narrowed := true }
def AstValidUptoSaid : Prop := astValidUptoRow.holds Try.pinned (OpenSpec.upto astValidSpec)

/-- 'rexmilllaw05.AstOrder', WHERE WHAT IT READS IS OF BULK AT MOST 1048576: true; the input reads as it did. -/
def astOrderUptoRow : OpenClaim := { program := "ytafbdphblilenaa", sum := "2c1e8647dab528cf7331c3d7b1c98b07c2b8b4141238f9f08d7219d407d6a265", func := "rexmill/rexmilllaw05.AstOrder", spec := "astOrder", unfollowed := true, recurses := true, apart := false, narrowed := true }
def AstOrderUptoSaid : Prop := astOrderUptoRow.holds Try.pinned (OpenSpec.upto astOrderSpec)

/-- 'rexmilllaw05.AstBytes', WHERE WHAT IT READS IS OF BULK AT MOST 1048576: true; the input reads as it did. -/
def astBytesUptoRow : OpenClaim := { program := "ytafbdphblilenaa", sum := "2c1e8647dab528cf7331c3d7b1c98b07c2b8b4141238f9f08d7219d407d6a265", func := "rexmill/rexmilllaw05.AstBytes", spec := "astBytes", unfollowed := true, recurses := true, apart := false, narrowed := true }
def AstBytesUptoSaid : Prop := astBytesUptoRow.holds Try.pinned (OpenSpec.upto astBytesSpec)

end Rows
end Go.Proofs.Ytafbdphblilenaa
