/-
  No cell of these rows narrows 'for every input' (looked for: loops, veiled, ifaces, maps, wideKeys, modest, calm, conditions, laid).
  DERIVED. THE GIVEN ROWS OF THIS SEAT. 3 by the template 'for every input the law returns true; each argument reads behind the call as it read before'; 0 by the template 'total and deterministic' (their statements: YtpppfpaalcbggaaTotals.lean).
  GIVEN WITH THE SEED: the statements are not yours to turn. If you find one false, say at which input.
  Laid BY PROGRAM, IN A SANDBOX (cutbox-rows.mjs): the forced cells as the released guide's own fill.sh prints them over the translation d8316ce479475610… (all of the seat's roots in one cut). By AI agents, Wed Nov 11 2026. No macro, syntax, notation, axiom, sorry.
-/
import Derived.Test.YtpppfpaalcbggaaChecked
import GoSem.Claim
import GoSem.ClaimJoined
import GoSem.ClaimMapViews
import Derived.JoinedTies
import Derived.KernelRfl
namespace Go.Proofs.Ytpppfpaalcbggaa
/- THE CELL 'sum', in the pinned program and in every row, IS THE sha256 OF THE DUMP (.gsa) THAT YtpppfpaalcbggaaProg.lean LOADS. Nothing in Lean hashes anything: it is a label: what it is worth is what the hold of that sum in a sandbox is worth. -/
noncomputable def Try.pinned : Pinned := { name := "ytpppfpaalcbggaa", sum := "d8316ce47947561077ead789328f038de74cb0b9ffedb77f4897da959219cb16", checked := Try.checked }
namespace Rows
def none {H : Type} : Left H := { results := [], args := [] }

/-- 'rexmilllaw09.MemoBound': WHATEVER THE INPUT: true; the input reads as it did. -/
def memoBoundSpec : ChangeSpec := { name := "memoBound", fn := fun _ => fun
  | [d1, d2, d3] => { results := [.lit (.bool true)], args := [d1, d2, d3] }
  | _ => none }
def memoBoundRow : OpenClaim := { program := "ytpppfpaalcbggaa", sum := "d8316ce47947561077ead789328f038de74cb0b9ffedb77f4897da959219cb16", func := "rexmill/rexmilllaw09.MemoBound", spec := "memoBound", unfollowed := true, recurses := true, plainKeys := false, apart := false }
def MemoBoundSaid : Prop := memoBoundRow.holds Try.pinned (OpenSpec.ofChange memoBoundSpec)

/-- ITS FALSE NEIGHBOUR: 'it returns false'. Refute it at one input. -/
def memoBoundWrong : ChangeSpec := { name := "memoBound", fn := fun _ => fun
  | [d1, d2, d3] => { results := [.lit (.bool false)], args := [d1, d2, d3] }
  | _ => none }
def MemoBoundWrongFalsely : Prop := memoBoundRow.holds Try.pinned (OpenSpec.ofChange memoBoundWrong)

/-- 'rexmilllaw09.MemoBounds': WHATEVER THE INPUT: true; the input reads as it did. -/
def memoBoundsSpec : ChangeSpec := { name := "memoBounds", fn := fun _ => fun
  | [d1, d2, d3, d4, d5, d6] => { results := [.lit (.bool true)], args := [d1, d2, d3, d4, d5, d6] }
  | _ => none }
def memoBoundsRow : OpenClaim := { program := "ytpppfpaalcbggaa", sum := "d8316ce47947561077ead789328f038de74cb0b9ffedb77f4897da959219cb16", func := "rexmill/rexmilllaw09.MemoBounds", spec := "memoBounds", unfollowed := true, recurses := true, plainKeys := false, apart := false }
def MemoBoundsSaid : Prop := memoBoundsRow.holds Try.pinned (OpenSpec.ofChange memoBoundsSpec)

/-- ITS FALSE NEIGHBOUR: 'it returns false'. Refute it at one input. -/
def memoBoundsWrong : ChangeSpec := { name := "memoBounds", fn := fun _ => fun
  | [d1, d2, d3, d4, d5, d6] => { results := [.lit (.bool false)], args := [d1, d2, d3, d4, d5, d6] }
  | _ => none }
def MemoBoundsWrongFalsely : Prop := memoBoundsRow.holds Try.pinned (OpenSpec.ofChange memoBoundsWrong)

/-- 'rexmilllaw09.MemoLinear': WHATEVER THE INPUT: true; the input reads as it did. -/
def memoLinearSpec : ChangeSpec := { name := "memoLinear", fn := fun _ => fun
  | [d] => { results := [.lit (.bool true)], args := [d] }
  | _ => none }
def memoLinearRow : OpenClaim := { program := "ytpppfpaalcbggaa", sum := "d8316ce47947561077ead789328f038de74cb0b9ffedb77f4897da959219cb16", func := "rexmill/rexmilllaw09.MemoLinear", spec := "memoLinear", unfollowed := true, recurses := true, plainKeys := false, apart := false }
def MemoLinearSaid : Prop := memoLinearRow.holds Try.pinned (OpenSpec.ofChange memoLinearSpec)

/-- ITS FALSE NEIGHBOUR: 'it returns false'. Refute it at one input. -/
def memoLinearWrong : ChangeSpec := { name := "memoLinear", fn := fun _ => fun
  | [d] => { results := [.lit (.bool false)], args := [d] }
  | _ => none }
def MemoLinearWrongFalsely : Prop := memoLinearRow.holds Try.pinned (OpenSpec.ofChange memoLinearWrong)

/- THE SECOND FORM. 'bulk': how many values and letters a reading holds, each counted each time it is reached (what is shared counts as often as it is met; a slice's spare places count too). A statement '..UptoSaid' is the law's where the arguments, and the package variables that the reading takes, are together of bulk at most 1048576: NARROWER than '..Said'. Prove '..Said' where nothing that the law and all that it calls make is longer than what came in: it says more and counts as full. Else prove '..UptoSaid'. A law counts once. -/
mutual
def uptoBulk {H : Type} : DataW H → Nat
  | .lit (.string bytes) => bytes.length + 1
  | .lit _ => 1
  | .nil => 1
  | .ptr d => uptoBulk d + 1
  | .slice elems spare => uptoBulkAll elems + uptoBulkAll spare + 1
  | .agg parts => uptoBulkAll parts + 1
  | .iface _ d => uptoBulk d + 1
  | .map entries => uptoBulkEntries entries + 1
  | .held _ => 1
def uptoBulkAll {H : Type} : List (DataW H) → Nat
  | [] => 0
  | d :: r => uptoBulk d + uptoBulkAll r
def uptoBulkEntries {H : Type} : List (Lit × DataW H) → Nat
  | [] => 0
  | x :: r => uptoBulkEntry x + uptoBulkEntries r
def uptoBulkEntry {H : Type} : Lit × DataW H → Nat
  | (.string bytes, d) => bytes.length + uptoBulk d + 1
  | (_, d) => uptoBulk d + 1
 end
def uptoSmall : (H : Type) → List (DataW H) → Bool := fun _ ds => decide (uptoBulkAll ds ≤ 1048576)
def OpenSpec.upto (s : _root_.Go.ChangeSpec) : _root_.Go.OpenSpec := { _root_.Go.OpenSpec.ofChange s with cond := some uptoSmall }

/-- 'rexmilllaw09.MemoBound', WHERE WHAT IT READS IS OF BULK AT MOST 1048576: true; the input reads as it did. -/
def memoBoundUptoRow : OpenClaim := { program := "ytpppfpaalcbggaa", sum := "d8316ce47947561077ead789328f038de74cb0b9ffedb77f4897da959219cb16", func := "rexmill/rexmilllaw09.MemoBound", spec := "memoBound", unfollowed := true, recurses := true, plainKeys := false, apart := false, narrowed := true }
def MemoBoundUptoSaid : Prop := memoBoundUptoRow.holds Try.pinned (OpenSpec.upto memoBoundSpec)

/-- 'rexmilllaw09.MemoBounds', WHERE WHAT IT READS IS OF BULK AT MOST 1048576: true; the input reads as it did. -/
def memoBoundsUptoRow : OpenClaim := { program := "ytpppfpaalcbggaa", sum := "d8316ce47947561077ead789328f038de74cb0b9ffedb77f4897da959219cb16", func := "rexmill/rexmilllaw09.MemoBounds", spec := "memoBounds", unfollowed := true, recurses := true, plainKeys := false, apart := false, narrowed := true }
def MemoBoundsUptoSaid : Prop := memoBoundsUptoRow.holds Try.pinned (OpenSpec.upto memoBoundsSpec)

/-- 'rexmilllaw09.MemoLinear', WHERE WHAT IT READS IS OF BULK AT MOST 1048576: true; the input reads as it did. -/
def memoLinearUptoRow : OpenClaim := { program := "ytpppfpaalcbggaa", sum := "d8316ce47947561077ead789328f038de74cb0b9ffedb77f4897da959219cb16", func := "rexmill/rexmilllaw09.MemoLinear", spec := "memoLinear", unfollowed := true, recurses := true, plainKeys := false, apart := false, narrowed := true }
def MemoLinearUptoSaid : Prop := memoLinearUptoRow.holds Try.pinned (OpenSpec.upto memoLinearSpec)

end Rows
end Go.Proofs.Ytpppfpaalcbggaa
