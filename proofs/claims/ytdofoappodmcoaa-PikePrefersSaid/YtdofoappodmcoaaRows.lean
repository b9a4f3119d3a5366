/-
  No cell of these rows narrows 'for every input' (looked for: loops, veiled, ifaces, maps, wideKeys, modest, calm, conditions, laid).
  DERIVED. THE GIVEN ROWS OF THIS SEAT. 6 by the template 'for every input the law returns true; each argument reads behind the call as it read before'; 0 by the template 'total and deterministic' (their statements: YtdofoappodmcoaaTotals.lean).
  GIVEN WITH THE SEED: the statements are not yours to turn. If you find one false, say at which input.
  Laid BY PROGRAM, IN A SANDBOX (cutbox-rows.mjs): the forced cells as the released guide's own fill.sh prints them over the translation e89cbb2cce50df2b… (all of the seat's roots in one cut). By AI agents, Wed Nov 11 2026. No macro, syntax, notation, axiom, sorry.
-/
import Derived.Test.YtdofoappodmcoaaChecked
import GoSem.Claim
import GoSem.ClaimJoined
import GoSem.ClaimMapViews
import Derived.JoinedTies
import Derived.KernelRfl
namespace Go.Proofs.Ytdofoappodmcoaa
/- THE CELL 'sum', in the pinned program and in every row, IS THE sha256 OF THE DUMP (.gsa) THAT YtdofoappodmcoaaProg.lean LOADS. Nothing in Lean hashes anything: it is a label: what it is worth is what the hold of that sum in a sandbox is worth. -/
noncomputable def Try.pinned : Pinned := { name := "ytdofoappodmcoaa", sum := "e89cbb2cce50df2b71778112eab616879cab0e09be19a0154898e30dbf9ce30f", checked := Try.checked }
namespace Rows
def none {H : Type} : Left H := { results := [], args := [] }

/-- 'rexmilllaw11.PikeRuns': WHATEVER THE INPUT: true; the input reads as it did. -/
def pikeRunsSpec : ChangeSpec := { name := "pikeRuns", fn := fun _ => fun
  | [d1, d2, d3, d4, d5] => { results := [.lit (.bool true)], args := [d1, d2, d3, d4, d5] }
  | _ => none }
def pikeRunsRow : OpenClaim := { program := "ytdofoappodmcoaa", sum := "e89cbb2cce50df2b71778112eab616879cab0e09be19a0154898e30dbf9ce30f", func := "rexmill/rexmilllaw11.PikeRuns", spec := "pikeRuns", unfollowed := true, recurses := true, apart := false }
def PikeRunsSaid : Prop := pikeRunsRow.holds Try.pinned (OpenSpec.ofChange pikeRunsSpec)

/-- ITS FALSE NEIGHBOUR: 'it returns false'. Refute it at one input. -/
def pikeRunsWrong : ChangeSpec := { name := "pikeRuns", fn := fun _ => fun
  | [d1, d2, d3, d4, d5] => { results := [.lit (.bool false)], args := [d1, d2, d3, d4, d5] }
  | _ => none }
def PikeRunsWrongFalsely : Prop := pikeRunsRow.holds Try.pinned (OpenSpec.ofChange pikeRunsWrong)

/-- 'rexmilllaw11.PikeThreads': WHATEVER THE INPUT: true; the input reads as it did. -/
def pikeThreadsSpec : ChangeSpec := { name := "pikeThreads", fn := fun _ => fun
  | [d1, d2, d3, d4, d5] => { results := [.lit (.bool true)], args := [d1, d2, d3, d4, d5] }
  | _ => none }
def pikeThreadsRow : OpenClaim := { program := "ytdofoappodmcoaa", sum := "e89cbb2cce50df2b71778112eab616879cab0e09be19a0154898e30dbf9ce30f", func := "rexmill/rexmilllaw11.PikeThreads", spec := "pikeThreads", unfollowed := true, recurses := true, apart := false }
def PikeThreadsSaid : Prop := pikeThreadsRow.holds Try.pinned (OpenSpec.ofChange pikeThreadsSpec)

/-- ITS FALSE NEIGHBOUR: 'it returns false'. Refute it at one input. -/
def pikeThreadsWrong : ChangeSpec := { name := "pikeThreads", fn := fun _ => fun
  | [d1, d2, d3, d4, d5] => { results := [.lit (.bool false)], args := [d1, d2, d3, d4, d5] }
  | _ => none }
def PikeThreadsWrongFalsely : Prop := pikeThreadsRow.holds Try.pinned (OpenSpec.ofChange pikeThreadsWrong)

/-- 'rexmilllaw11.PikeSearches': WHATEVER THE INPUT: true; the input reads as it did. -/
def pikeSearchesSpec : ChangeSpec := { name := "pikeSearches", fn := fun _ => fun
  | [d1, d2, d3, d4, d5] => { results := [.lit (.bool true)], args := [d1, d2, d3, d4, d5] }
  | _ => none }
def pikeSearchesRow : OpenClaim := { program := "ytdofoappodmcoaa", sum := "e89cbb2cce50df2b71778112eab616879cab0e09be19a0154898e30dbf9ce30f", func := "rexmill/rexmilllaw11.PikeSearches", spec := "pikeSearches", unfollowed := true, recurses := true, apart := false }
def PikeSearchesSaid : Prop := pikeSearchesRow.holds Try.pinned (OpenSpec.ofChange pikeSearchesSpec)

/-- ITS FALSE NEIGHBOUR: 'it returns false'. Refute it at one input. -/
def pikeSearchesWrong : ChangeSpec := { name := "pikeSearches", fn := fun _ => fun
  | [d1, d2, d3, d4, d5] => { results := [.lit (.bool false)], args := [d1, d2, d3, d4, d5] }
  | _ => none }
def PikeSearchesWrongFalsely : Prop := pikeSearchesRow.holds Try.pinned (OpenSpec.ofChange pikeSearchesWrong)

/-- 'rexmilllaw11.PikeForgets': WHATEVER THE INPUT: true; the input reads as it did. -/
def pikeForgetsSpec : ChangeSpec := { name := "pikeForgets", fn := fun _ => fun
  | [d1, d2, d3, d4] => { results := [.lit (.bool true)], args := [d1, d2, d3, d4] }
  | _ => none }
def pikeForgetsRow : OpenClaim := { program := "ytdofoappodmcoaa", sum := "e89cbb2cce50df2b71778112eab616879cab0e09be19a0154898e30dbf9ce30f", func := "rexmill/rexmilllaw11.PikeForgets", spec := "pikeForgets", unfollowed := true, recurses := true, apart := false }
def PikeForgetsSaid : Prop := pikeForgetsRow.holds Try.pinned (OpenSpec.ofChange pikeForgetsSpec)

/-- ITS FALSE NEIGHBOUR: 'it returns false'. Refute it at one input. -/
def pikeForgetsWrong : ChangeSpec := { name := "pikeForgets", fn := fun _ => fun
  | [d1, d2, d3, d4] => { results := [.lit (.bool false)], args := [d1, d2, d3, d4] }
  | _ => none }
def PikeForgetsWrongFalsely : Prop := pikeForgetsRow.holds Try.pinned (OpenSpec.ofChange pikeForgetsWrong)

/-- 'rexmilllaw11.PikePrefers': WHATEVER THE INPUT: true; the input reads as it did. -/
def pikePrefersSpec : ChangeSpec := { name := "pikePrefers", fn := fun _ => fun
  | [d1, d2] => { results := [.lit (.bool true)], args := [d1, d2] }
  | _ => none }
def pikePrefersRow : OpenClaim := { program := "ytdofoappodmcoaa", sum := "e89cbb2cce50df2b71778112eab616879cab0e09be19a0154898e30dbf9ce30f", func := "rexmill/rexmilllaw11.PikePrefers", spec := "pikePrefers", unfollowed := true, recurses := true, apart := false }
def PikePrefersSaid : Prop := pikePrefersRow.holds Try.pinned (OpenSpec.ofChange pikePrefersSpec)

/-- ITS FALSE NEIGHBOUR: 'it returns false'. Refute it at one input. -/
def pikePrefersWrong : ChangeSpec := { name := "pikePrefers", fn := fun _ => fun
  | [d1, d2] => { results := [.lit (.bool false)], args := [d1, d2] }
  | _ => none }
def PikePrefersWrongFalsely : Prop := pikePrefersRow.holds Try.pinned (OpenSpec.ofChange pikePrefersWrong)

/-- 'rexmilllaw11.PikeMatches': WHATEVER THE INPUT: true; the input reads as it did. -/
def pikeMatchesSpec : ChangeSpec := { name := "pikeMatches", fn := fun _ => fun
  | [d1, d2] => { results := [.lit (.bool true)], args := [d1, d2] }
  | _ => none }
def pikeMatchesRow : OpenClaim := { program := "ytdofoappodmcoaa", sum := "e89cbb2cce50df2b71778112eab616879cab0e09be19a0154898e30dbf9ce30f", func := "rexmill/rexmilllaw11.PikeMatches", spec := "pikeMatches", unfollowed := true, recurses := true, apart := false }
def PikeMatchesSaid : Prop := pikeMatchesRow.holds Try.pinned (OpenSpec.ofChange pikeMatchesSpec)

/-- ITS FALSE NEIGHBOUR: 'it returns false'. Refute it at one input. -/
def pikeMatchesWrong : ChangeSpec := { name := "pikeMatches", fn := fun _ => fun
  | [d1, d2] => { results := [.lit (.bool false)], args := [d1, d2] }
  | _ => none }
def PikeMatchesWrongFalsely : Prop := pikeMatchesRow.holds Try.pinned (OpenSpec.ofChange pikeMatchesWrong)

/- THE SECOND FORM. 'bulk': how many values and letters a reading holds, each counted each time it is reached (what is shared counts as often as it is met; a slice's spare places count too). A statement '..UptoSaid' is the law's where the arguments, and the package variables that the reading takes, are together of bulk at most 1048576: NARROWER than '..Said'. Prove '..Said' where nothing that the law and all that it calls make is longer than what came in: it says more and counts as full. Else prove '..UptoSaid'. A law counts once. -/
mutual
def uptoBulk {H : Type} : DataW H → Nat
  | .lit (.string bytes) => bytes.length + 1
  | .lit _ => 1
  | .nil => 1
  | .ptr d => uptoBulk d + 1
  | .slice elems spare => uptoBulkAll elems + uptoBulkAll spare + 1
  | .agg parts => uptoBulkAll parts + 1
  | .iface _ d => uptoBulk d + 1
  | .map entries => uptoBulkEntries entries + 1
  | .held _ => 1
def uptoBulkAll {H : Type} : List (DataW H) → Nat
  | [] => 0
  | d :: r => uptoBulk d + uptoBulkAll r
def uptoBulkEntries {H : Type} : List (Lit × DataW H) → Nat
  | [] => 0
  | x :: r => uptoBulkEntry x + uptoBulkEntries r
def uptoBulkEntry {H : Type} : Lit × DataW H → Nat
  | (.string bytes, d) => bytes.length + uptoBulk d + 1
  | (_, d) => uptoBulk d + 1
 end
def uptoSmall : (H : Type) → List (DataW H) → Bool := fun _ ds => decide (uptoBulkAll ds ≤ 1048576)
def OpenSpec.upto (s : _root_.Go.ChangeSpec) : _root_.Go.OpenSpec := { _root_.Go.OpenSpec.ofChange s with cond := some uptoSmall }

/-- 'rexmilllaw11.PikeRuns', WHERE WHAT IT READS IS OF BULK AT MOST 1048576: true; the input reads as it did. -/
def pikeRunsUptoRow : OpenClaim := { program := "ytdofoappodmcoaa", sum := "e89cbb2cce50df2b71778112eab616879cab0e09be19a0154898e30dbf9ce30f", func := "rexmill/rexmilllaw11.PikeRuns", spec := "pikeRuns", unfollowed := true, recurses := true, apart := false, narrowed := true }
def PikeRunsUptoSaid : Prop := pikeRunsUptoRow.holds Try.pinned (OpenSpec.upto pikeRunsSpec)

/-- 'rexmilllaw11.PikeThreads', WHERE WHAT IT READS IS OF BULK AT MOST 1048576: true; the input reads as it did. -/
def pikeThreadsUptoRow : OpenClaim := { program := "ytdofoappodmcoaa", sum := "e89cbb2cce50df2b71778112eab616879cab0e09be19a0154898e30dbf9ce30f", func := "rexmill/rexmilllaw11.PikeThreads", spec := "pikeThreads", unfollowed := true, recurses := true, apart := false, narrowed := true }
def PikeThreadsUptoSaid : Prop := pikeThreadsUptoRow.holds Try.pinned (OpenSpec.upto pikeThreadsSpec)

/-- 'rexmilllaw11.PikeSearches', WHERE WHAT IT READS IS OF BULK AT MOST 1048576: true; the input reads as it did. -/
def pikeSearchesUptoRow : OpenClaim := { program := "ytdofoappodmcoaa", sum := "e89cbb2cce50df2b71778112eab616879cab0e09be19a0154898e30dbf9ce30f", func := "rexmill/rexmilllaw11.PikeSearches", spec := "pikeSearches", unfollowed := true, recurses := true, apart := false, narrowed := true }
def PikeSearchesUptoSaid : Prop := pikeSearchesUptoRow.holds Try.pinned (OpenSpec.upto pikeSearchesSpec)

/-- 'rexmilllaw11.PikeForgets', WHERE WHAT IT READS IS OF BULK AT MOST 1048576: true; the input reads as it did. -/
def pikeForgetsUptoRow : OpenClaim := { program := "ytdofoappodmcoaa", sum := "e89cbb2cce50df2b71778112eab616879cab0e09be19a0154898e30dbf9ce30f", func := "rexmill/rexmilllaw11.PikeForgets", spec := "pikeForgets", unfollowed := true, recurses := true, apart := false, narrowed := true }
def PikeForgetsUptoSaid : Prop := pikeForgetsUptoRow.holds Try.pinned (OpenSpec.upto pikeForgetsSpec)

/-- 'rexmilllaw11.PikePrefers', WHERE WHAT IT READS IS OF BULK AT MOST 1048576: true; the input reads as it did. -/
def pikePrefersUptoRow : OpenClaim := { program := "ytdofoappodmcoaa", sum := "e89cbb2cce50df2b71778112eab616879cab0e09be19a0154898e30dbf9ce30f", func := "rexmill/rexmilllaw11.PikePrefers", spec := "pikePrefers", unfollowed := true, recurses := true, apart := false, narrowed := true }
def PikePrefersUptoSaid : Prop := pikePrefersUptoRow.holds Try.pinned (OpenSpec.upto pikePrefersSpec)

/-- 'rexmilllaw11.PikeMatches', WHERE WHAT IT READS IS OF BULK AT MOST 1048576: true; the input reads as it did. -/
def pikeMatchesUptoRow : OpenClaim := { program := "ytdofoappodmcoaa", sum := "e89cbb2cce50df2b71778112eab616879cab0e09be19a0154898e30dbf9ce30f", func := "rexmill/rexmilllaw11.PikeMatches", spec := "pikeMatches", unfollowed := true, recurses := true, apart := false, narrowed := true }
def PikeMatchesUptoSaid : Prop := pikeMatchesUptoRow.holds Try.pinned (OpenSpec.upto pikeMatchesSpec)

end Rows
end Go.Proofs.Ytdofoappodmcoaa
