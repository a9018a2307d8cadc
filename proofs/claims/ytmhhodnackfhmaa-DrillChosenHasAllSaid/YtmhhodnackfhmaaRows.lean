/-
  No cell of these rows narrows 'for every input' (looked for: loops, veiled, ifaces, maps, wideKeys, modest, calm, conditions, laid).
  DERIVED. THE GIVEN ROWS OF THIS SEAT. 7 by the template 'for every input the law returns true; each argument reads behind the call as it read before'; 0 by the template 'total and deterministic' (their statements: YtmhhodnackfhmaaTotals.lean).
  GIVEN WITH THE SEED: the statements are not yours to turn. If you find one false, say at which input.
  Laid BY PROGRAM, IN A SANDBOX (cutbox-rows.mjs): the forced cells as the released guide's own fill.sh prints them over the translation d87f29496e83166f… (all of the seat's roots in one cut). By AI agents, Wed Nov 11 2026. No macro, syntax, notation, axiom, sorry.
-/
import Derived.Test.YtmhhodnackfhmaaChecked
import GoSem.Claim
import GoSem.ClaimJoined
import GoSem.ClaimMapViews
import Derived.JoinedTies
import Derived.KernelRfl
namespace Go.Proofs.Ytmhhodnackfhmaa
/- THE CELL 'sum', in the pinned program and in every row, IS THE sha256 OF THE DUMP (.gsa) THAT YtmhhodnackfhmaaProg.lean LOADS. Nothing in Lean hashes anything: it is a label: what it is worth is what the hold of that sum in a sandbox is worth. -/
noncomputable def Try.pinned : Pinned := { name := "ytmhhodnackfhmaa", sum := "d87f29496e83166fdbcdb41627b24f885d564327ef54010da1ddb013f8170bf6", checked := Try.checked }
namespace Rows
def none {H : Type} : Left H := { results := [], args := [] }

/-- 'etchhouselaw8.DrillNoBitIsWorn': WHATEVER THE INPUT: true; the input reads as it did. -/
def drillNoBitIsWornSpec : ChangeSpec := { name := "drillNoBitIsWorn", fn := fun _ => fun
  | [d1, d2] => { results := [.lit (.bool true)], args := [d1, d2] }
  | _ => none }
def drillNoBitIsWornRow : OpenClaim := { program := "ytmhhodnackfhmaa", sum := "d87f29496e83166fdbcdb41627b24f885d564327ef54010da1ddb013f8170bf6", func := "etchhouse/etchhouselaw8.DrillNoBitIsWorn", spec := "drillNoBitIsWorn", inPlace := ["internal/bytealg.IndexByteString", "internal/bytealg.abigen_runtime_cmpstring"], unfollowed := true, recurses := true, plainKeys := false, apart := false }
def DrillNoBitIsWornSaid : Prop := drillNoBitIsWornRow.holds Try.pinned (OpenSpec.ofChange drillNoBitIsWornSpec)

/-- ITS FALSE NEIGHBOUR: 'it returns false'. Refute it at one input. -/
def drillNoBitIsWornWrong : ChangeSpec := { name := "drillNoBitIsWorn", fn := fun _ => fun
  | [d1, d2] => { results := [.lit (.bool false)], args := [d1, d2] }
  | _ => none }
def DrillNoBitIsWornWrongFalsely : Prop := drillNoBitIsWornRow.holds Try.pinned (OpenSpec.ofChange drillNoBitIsWornWrong)

/-- 'etchhouselaw8.DrillChosenMatchesSpec': WHATEVER THE INPUT: true; the input reads as it did. -/
def drillChosenMatchesSpecSpec : ChangeSpec := { name := "drillChosenMatchesSpec", fn := fun _ => fun
  | [d1, d2, d3] => { results := [.lit (.bool true)], args := [d1, d2, d3] }
  | _ => none }
def drillChosenMatchesSpecRow : OpenClaim := { program := "ytmhhodnackfhmaa", sum := "d87f29496e83166fdbcdb41627b24f885d564327ef54010da1ddb013f8170bf6", func := "etchhouse/etchhouselaw8.DrillChosenMatchesSpec", spec := "drillChosenMatchesSpec", inPlace := ["internal/bytealg.IndexByteString"], unfollowed := true, recurses := true, plainKeys := false, apart := false }
def DrillChosenMatchesSpecSaid : Prop := drillChosenMatchesSpecRow.holds Try.pinned (OpenSpec.ofChange drillChosenMatchesSpecSpec)

/-- ITS FALSE NEIGHBOUR: 'it returns false'. Refute it at one input. -/
def drillChosenMatchesSpecWrong : ChangeSpec := { name := "drillChosenMatchesSpec", fn := fun _ => fun
  | [d1, d2, d3] => { results := [.lit (.bool false)], args := [d1, d2, d3] }
  | _ => none }
def DrillChosenMatchesSpecWrongFalsely : Prop := drillChosenMatchesSpecRow.holds Try.pinned (OpenSpec.ofChange drillChosenMatchesSpecWrong)

/-- 'etchhouselaw8.DrillSameMatchesSpec': WHATEVER THE INPUT: true; the input reads as it did. -/
def drillSameMatchesSpecSpec : ChangeSpec := { name := "drillSameMatchesSpec", fn := fun _ => fun
  | [d1, d2, d3] => { results := [.lit (.bool true)], args := [d1, d2, d3] }
  | _ => none }
def drillSameMatchesSpecRow : OpenClaim := { program := "ytmhhodnackfhmaa", sum := "d87f29496e83166fdbcdb41627b24f885d564327ef54010da1ddb013f8170bf6", func := "etchhouse/etchhouselaw8.DrillSameMatchesSpec", spec := "drillSameMatchesSpec", inPlace := ["internal/bytealg.IndexByteString", "internal/bytealg.abigen_runtime_cmpstring"], unfollowed := true, recurses := true, plainKeys := false, apart := false }
def DrillSameMatchesSpecSaid : Prop := drillSameMatchesSpecRow.holds Try.pinned (OpenSpec.ofChange drillSameMatchesSpecSpec)

/-- ITS FALSE NEIGHBOUR: 'it returns false'. Refute it at one input. -/
def drillSameMatchesSpecWrong : ChangeSpec := { name := "drillSameMatchesSpec", fn := fun _ => fun
  | [d1, d2, d3] => { results := [.lit (.bool false)], args := [d1, d2, d3] }
  | _ => none }
def DrillSameMatchesSpecWrongFalsely : Prop := drillSameMatchesSpecRow.holds Try.pinned (OpenSpec.ofChange drillSameMatchesSpecWrong)

/-- 'etchhouselaw8.DrillFasterTakesLess': WHATEVER THE INPUT: true; the input reads as it did. -/
def drillFasterTakesLessSpec : ChangeSpec := { name := "drillFasterTakesLess", fn := fun _ => fun
  | [d1, d2, d3, d4, d5, d6, d7] => { results := [.lit (.bool true)], args := [d1, d2, d3, d4, d5, d6, d7] }
  | _ => none }
def drillFasterTakesLessRow : OpenClaim := { program := "ytmhhodnackfhmaa", sum := "d87f29496e83166fdbcdb41627b24f885d564327ef54010da1ddb013f8170bf6", func := "etchhouse/etchhouselaw8.DrillFasterTakesLess", spec := "drillFasterTakesLess", inPlace := ["internal/bytealg.IndexByteString", "internal/bytealg.abigen_runtime_cmpstring"], unfollowed := true, recurses := true, plainKeys := false, apart := false }
def DrillFasterTakesLessSaid : Prop := drillFasterTakesLessRow.holds Try.pinned (OpenSpec.ofChange drillFasterTakesLessSpec)

/-- ITS FALSE NEIGHBOUR: 'it returns false'. Refute it at one input. -/
def drillFasterTakesLessWrong : ChangeSpec := { name := "drillFasterTakesLess", fn := fun _ => fun
  | [d1, d2, d3, d4, d5, d6, d7] => { results := [.lit (.bool false)], args := [d1, d2, d3, d4, d5, d6, d7] }
  | _ => none }
def DrillFasterTakesLessWrongFalsely : Prop := drillFasterTakesLessRow.holds Try.pinned (OpenSpec.ofChange drillFasterTakesLessWrong)

/-- 'etchhouselaw8.DrillChangesMatchSpec': WHATEVER THE INPUT: true; the input reads as it did. -/
def drillChangesMatchSpecSpec : ChangeSpec := { name := "drillChangesMatchSpec", fn := fun _ => fun
  | [d1, d2, d3, d4, d5] => { results := [.lit (.bool true)], args := [d1, d2, d3, d4, d5] }
  | _ => none }
def drillChangesMatchSpecRow : OpenClaim := { program := "ytmhhodnackfhmaa", sum := "d87f29496e83166fdbcdb41627b24f885d564327ef54010da1ddb013f8170bf6", func := "etchhouse/etchhouselaw8.DrillChangesMatchSpec", spec := "drillChangesMatchSpec", inPlace := ["internal/bytealg.IndexByteString", "internal/bytealg.abigen_runtime_cmpstring"], unfollowed := true, recurses := true, plainKeys := false, apart := false }
def DrillChangesMatchSpecSaid : Prop := drillChangesMatchSpecRow.holds Try.pinned (OpenSpec.ofChange drillChangesMatchSpecSpec)

/-- ITS FALSE NEIGHBOUR: 'it returns false'. Refute it at one input. -/
def drillChangesMatchSpecWrong : ChangeSpec := { name := "drillChangesMatchSpec", fn := fun _ => fun
  | [d1, d2, d3, d4, d5] => { results := [.lit (.bool false)], args := [d1, d2, d3, d4, d5] }
  | _ => none }
def DrillChangesMatchSpecWrongFalsely : Prop := drillChangesMatchSpecRow.holds Try.pinned (OpenSpec.ofChange drillChangesMatchSpecWrong)

/-- 'etchhouselaw8.DrillChosenHasAll': WHATEVER THE INPUT: true; the input reads as it did. -/
def drillChosenHasAllSpec : ChangeSpec := { name := "drillChosenHasAll", fn := fun _ => fun
  | [d1, d2, d3] => { results := [.lit (.bool true)], args := [d1, d2, d3] }
  | _ => none }
def drillChosenHasAllRow : OpenClaim := { program := "ytmhhodnackfhmaa", sum := "d87f29496e83166fdbcdb41627b24f885d564327ef54010da1ddb013f8170bf6", func := "etchhouse/etchhouselaw8.DrillChosenHasAll", spec := "drillChosenHasAll", inPlace := ["internal/bytealg.IndexByteString", "internal/bytealg.abigen_runtime_cmpstring"], unfollowed := true, recurses := true, plainKeys := false, apart := false }
def DrillChosenHasAllSaid : Prop := drillChosenHasAllRow.holds Try.pinned (OpenSpec.ofChange drillChosenHasAllSpec)

/-- ITS FALSE NEIGHBOUR: 'it returns false'. Refute it at one input. -/
def drillChosenHasAllWrong : ChangeSpec := { name := "drillChosenHasAll", fn := fun _ => fun
  | [d1, d2, d3] => { results := [.lit (.bool false)], args := [d1, d2, d3] }
  | _ => none }
def DrillChosenHasAllWrongFalsely : Prop := drillChosenHasAllRow.holds Try.pinned (OpenSpec.ofChange drillChosenHasAllWrong)

/-- 'etchhouselaw8.DrillChecksMatchSpec': WHATEVER THE INPUT: true; the input reads as it did. -/
def drillChecksMatchSpecSpec : ChangeSpec := { name := "drillChecksMatchSpec", fn := fun _ => fun
  | [d1, d2] => { results := [.lit (.bool true)], args := [d1, d2] }
  | _ => none }
def drillChecksMatchSpecRow : OpenClaim := { program := "ytmhhodnackfhmaa", sum := "d87f29496e83166fdbcdb41627b24f885d564327ef54010da1ddb013f8170bf6", func := "etchhouse/etchhouselaw8.DrillChecksMatchSpec", spec := "drillChecksMatchSpec", inPlace := ["internal/bytealg.IndexByteString"], unfollowed := true, recurses := true, plainKeys := false, apart := false }
def DrillChecksMatchSpecSaid : Prop := drillChecksMatchSpecRow.holds Try.pinned (OpenSpec.ofChange drillChecksMatchSpecSpec)

/-- ITS FALSE NEIGHBOUR: 'it returns false'. Refute it at one input. -/
def drillChecksMatchSpecWrong : ChangeSpec := { name := "drillChecksMatchSpec", fn := fun _ => fun
  | [d1, d2] => { results := [.lit (.bool false)], args := [d1, d2] }
  | _ => none }
def DrillChecksMatchSpecWrongFalsely : Prop := drillChecksMatchSpecRow.holds Try.pinned (OpenSpec.ofChange drillChecksMatchSpecWrong)

/- THE SECOND FORM. 'bulk': how many values and letters a reading holds, each counted each time it is reached (what is shared counts as often as it is met; a slice's spare places count too). A statement '..UptoSaid' is the law's where the arguments, and the package variables that the reading takes, are together of bulk at most 1048576: NARROWER than '..Said'. Prove '..Said' where nothing that the law and all that it calls make is longer than what came in: it says more and counts as full. Else prove '..UptoSaid'. A law counts once. -/
mutual
def uptoBulk {H : Type} : DataW H → Nat
  | .lit (.string bytes) => bytes.length + 1
  | .lit _ => 1
  | .nil => 1
  | .ptr d => uptoBulk d + 1
  | .slice elems spare => uptoBulkAll elems + uptoBulkAll spare + 1
  | .agg parts => uptoBulkAll parts + 1
  | .iface _ d => uptoBulk d + 1
  | .map entries => uptoBulkEntries entries + 1
  | .held _ => 1
def uptoBulkAll {H : Type} : List (DataW H) → Nat
  | [] => 0
  | d :: r => uptoBulk d + uptoBulkAll r
def uptoBulkEntries {H : Type} : List (Lit × DataW H) → Nat
  | [] => 0
  | x :: r => uptoBulkEntry x + uptoBulkEntries r
def uptoBulkEntry {H : Type} : Lit × DataW H → Nat
  | (.string bytes, d) => bytes.length + uptoBulk d + 1
  | (_, d) => uptoBulk d + 1
 end
def uptoSmall : (H : Type) → List (DataW H) → Bool := fun _ ds => decide (uptoBulkAll ds ≤ 1048576)
def OpenSpec.upto (s : _root_.Go.ChangeSpec) : _root_.Go.OpenSpec := { _root_.Go.OpenSpec.ofChange s with cond := some uptoSmall }

/-- 'etchhouselaw8.DrillNoBitIsWorn', WHERE WHAT IT READS IS OF BULK AT MOST 1048576: true; the input reads as it did. -/
def drillNoBitIsWornUptoRow : OpenClaim := { program := "ytmhhodnackfhmaa", sum := "d87f29496e83166fdbcdb41627b24f885d564327ef54010da1ddb013f8170bf6", func := "etchhouse/etchhouselaw8.DrillNoBitIsWorn", spec := "drillNoBitIsWorn", inPlace := ["internal/bytealg.IndexByteString", "internal/bytealg.abigen_runtime_cmpstring"], unfollowed := true, recurses := true, plainKeys := false, apart := false, narrowed := true }
def DrillNoBitIsWornUptoSaid : Prop := drillNoBitIsWornUptoRow.holds Try.pinned (OpenSpec.upto drillNoBitIsWornSpec)

/-- 'etchhouselaw8.DrillChosenMatchesSpec', WHERE WHAT IT READS IS OF BULK AT MOST 1048576: true; the input reads as it did. -/
def drillChosenMatchesSpecUptoRow : OpenClaim := { program := "ytmhhodnackfhmaa", sum := "d87f29496e83166fdbcdb41627b24f885d564327ef54010da1ddb013f8170bf6", func := "etchhouse/etchhouselaw8.DrillChosenMatchesSpec", spec := "drillChosenMatchesSpec", inPlace := ["internal/bytealg.IndexByteString"], unfollowed := true, recurses := true, plainKeys := false, apart := false, narrowed := true }
def DrillChosenMatchesSpecUptoSaid : Prop := drillChosenMatchesSpecUptoRow.holds Try.pinned (OpenSpec.upto drillChosenMatchesSpecSpec)

/-- 'etchhouselaw8.DrillSameMatchesSpec', WHERE WHAT IT READS IS OF BULK AT MOST 1048576: true; the input reads as it did. -/
def drillSameMatchesSpecUptoRow : OpenClaim := { program := "ytmhhodnackfhmaa", sum := "d87f29496e83166fdbcdb41627b24f885d564327ef54010da1ddb013f8170bf6", func := "etchhouse/etchhouselaw8.DrillSameMatchesSpec", spec := "drillSameMatchesSpec", inPlace := ["internal/bytealg.IndexByteString", "internal/bytealg.abigen_runtime_cmpstring"], unfollowed := true, recurses := true, plainKeys := false, apart := false, narrowed := true }
def DrillSameMatchesSpecUptoSaid : Prop := drillSameMatchesSpecUptoRow.holds Try.pinned (OpenSpec.upto drillSameMatchesSpecSpec)

/-- 'etchhouselaw8.DrillFasterTakesLess', WHERE WHAT IT READS IS OF BULK AT MOST 1048576: true; the input reads as it did. -/
def drillFasterTakesLessUptoRow : OpenClaim := { program := "ytmhhodnackfhmaa", sum := "d87f29496e83166fdbcdb41627b24f885d564327ef54010da1ddb013f8170bf6", func := "etchhouse/etchhouselaw8.DrillFasterTakesLess", spec := "drillFasterTakesLess", inPlace := ["internal/bytealg.IndexByteString", "internal/bytealg.abigen_runtime_cmpstring"], unfollowed := true, recurses := true, plainKeys := false, apart := false, narrowed := true }
def DrillFasterTakesLessUptoSaid : Prop := drillFasterTakesLessUptoRow.holds Try.pinned (OpenSpec.upto drillFasterTakesLessSpec)

/-- 'etchhouselaw8.DrillChangesMatchSpec', WHERE WHAT IT READS IS OF BULK AT MOST 1048576: true; the input reads as it did. -/
def drillChangesMatchSpecUptoRow : OpenClaim := { program := "ytmhhodnackfhmaa", sum := "d87f29496e83166fdbcdb41627b24f885d564327ef54010da1ddb013f8170bf6", func := "etchhouse/etchhouselaw8.DrillChangesMatchSpec", spec := "drillChangesMatchSpec", inPlace := ["internal/bytealg.IndexByteString", "internal/bytealg.abigen_runtime_cmpstring"], unfollowed := true, recurses := true, plainKeys := false, apart := false, narrowed := true }
def DrillChangesMatchSpecUptoSaid : Prop := drillChangesMatchSpecUptoRow.holds Try.pinned (OpenSpec.upto drillChangesMatchSpecSpec)

/-- 'etchhouselaw8.DrillChosenHasAll', WHERE WHAT IT READS IS OF BULK AT MOST 1048576: true; the input reads as it did. -/
def drillChosenHasAllUptoRow : OpenClaim := { program := "ytmhhodnackfhmaa", sum := "d87f29496e83166fdbcdb41627b24f885d564327ef54010da1ddb013f8170bf6", func := "etchhouse/etchhouselaw8.DrillChosenHasAll", spec := "drillChosenHasAll", inPlace := ["internal/bytealg.IndexByteString", "internal/bytealg.abigen_runtime_cmpstring"], unfollowed := true, recurses := true, plainKeys := false, apart := false, narrowed := true }
def DrillChosenHasAllUptoSaid : Prop := drillChosenHasAllUptoRow.holds Try.pinned (OpenSpec.upto drillChosenHasAllSpec)

/-- 'etchhouselaw8.DrillChecksMatchSpec', WHERE WHAT IT READS IS OF BULK AT MOST 1048576: true; the input reads as it did. -/
def drillChecksMatchSpecUptoRow : OpenClaim := { program := "ytmhhodnackfhmaa", sum := "d87f29496e83166fdbcdb41627b24f885d564327ef54010da1ddb013f8170bf6", func := "etchhouse/etchhouselaw8.DrillChecksMatchSpec", spec := "drillChecksMatchSpec", inPlace := ["internal/bytealg.IndexByteString"], unfollowed := true, recurses := true, plainKeys := false, apart := false, narrowed := true }
def DrillChecksMatchSpecUptoSaid : Prop := drillChecksMatchSpecUptoRow.holds Try.pinned (OpenSpec.upto drillChecksMatchSpecSpec)

end Rows
end Go.Proofs.Ytmhhodnackfhmaa
