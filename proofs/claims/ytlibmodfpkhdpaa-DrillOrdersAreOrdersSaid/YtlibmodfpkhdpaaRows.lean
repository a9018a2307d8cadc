/-
  No cell of these rows narrows 'for every input' (looked for: loops, veiled, ifaces, maps, wideKeys, modest, calm, conditions, laid).
  DERIVED. THE GIVEN ROWS OF THIS SEAT. 6 by the template 'for every input the law returns true; each argument reads behind the call as it read before'; 0 by the template 'total and deterministic' (their statements: YtlibmodfpkhdpaaTotals.lean).
  GIVEN WITH THE SEED: the statements are not yours to turn. If you find one false, say at which input.
  Laid BY PROGRAM, IN A SANDBOX (cutbox-rows.mjs): the forced cells as the released guide's own fill.sh prints them over the translation 189b372c3935a776… (all of the seat's roots in one cut). By AI agents, Wed Nov 11 2026. No macro, syntax, notation, axiom, sorry.
-/
import Derived.Test.YtlibmodfpkhdpaaChecked
import GoSem.Claim
import GoSem.ClaimJoined
import GoSem.ClaimMapViews
import Derived.JoinedTies
import Derived.KernelRfl
namespace Go.Proofs.Ytlibmodfpkhdpaa
/- THE CELL 'sum', in the pinned program and in every row, IS THE sha256 OF THE DUMP (.gsa) THAT YtlibmodfpkhdpaaProg.lean LOADS. Nothing in Lean hashes anything: it is a label: what it is worth is what the hold of that sum in a sandbox is worth. -/
noncomputable def Try.pinned : Pinned := { name := "ytlibmodfpkhdpaa", sum := "189b372c3935a776631ae24012196e1a3bd8042b9aa26089852a397998aae116", checked := Try.checked }
namespace Rows
def none {H : Type} : Left H := { results := [], args := [] }

/-- 'etchhouselaw8.DrillWaysMatchSpec': WHATEVER THE INPUT: true; the input reads as it did. -/
def drillWaysMatchSpecSpec : ChangeSpec := { name := "drillWaysMatchSpec", fn := fun _ => fun
  | [d1, d2] => { results := [.lit (.bool true)], args := [d1, d2] }
  | _ => none }
def drillWaysMatchSpecRow : OpenClaim := { program := "ytlibmodfpkhdpaa", sum := "189b372c3935a776631ae24012196e1a3bd8042b9aa26089852a397998aae116", func := "etchhouse/etchhouselaw8.DrillWaysMatchSpec", spec := "drillWaysMatchSpec", unfollowed := true, recurses := true, plainKeys := false, apart := false }
def DrillWaysMatchSpecSaid : Prop := drillWaysMatchSpecRow.holds Try.pinned (OpenSpec.ofChange drillWaysMatchSpecSpec)

/-- ITS FALSE NEIGHBOUR: 'it returns false'. Refute it at one input. -/
def drillWaysMatchSpecWrong : ChangeSpec := { name := "drillWaysMatchSpec", fn := fun _ => fun
  | [d1, d2] => { results := [.lit (.bool false)], args := [d1, d2] }
  | _ => none }
def DrillWaysMatchSpecWrongFalsely : Prop := drillWaysMatchSpecRow.holds Try.pinned (OpenSpec.ofChange drillWaysMatchSpecWrong)

/-- 'etchhouselaw8.DrillNearGrows': WHATEVER THE INPUT: true; the input reads as it did. -/
def drillNearGrowsSpec : ChangeSpec := { name := "drillNearGrows", fn := fun _ => fun
  | [d1, d2, d3] => { results := [.lit (.bool true)], args := [d1, d2, d3] }
  | _ => none }
def drillNearGrowsRow : OpenClaim := { program := "ytlibmodfpkhdpaa", sum := "189b372c3935a776631ae24012196e1a3bd8042b9aa26089852a397998aae116", func := "etchhouse/etchhouselaw8.DrillNearGrows", spec := "drillNearGrows", unfollowed := true, recurses := true, plainKeys := false, apart := false }
def DrillNearGrowsSaid : Prop := drillNearGrowsRow.holds Try.pinned (OpenSpec.ofChange drillNearGrowsSpec)

/-- ITS FALSE NEIGHBOUR: 'it returns false'. Refute it at one input. -/
def drillNearGrowsWrong : ChangeSpec := { name := "drillNearGrows", fn := fun _ => fun
  | [d1, d2, d3] => { results := [.lit (.bool false)], args := [d1, d2, d3] }
  | _ => none }
def DrillNearGrowsWrongFalsely : Prop := drillNearGrowsRow.holds Try.pinned (OpenSpec.ofChange drillNearGrowsWrong)

/-- 'etchhouselaw8.DrillNearMatchesSpec': WHATEVER THE INPUT: true; the input reads as it did. -/
def drillNearMatchesSpecSpec : ChangeSpec := { name := "drillNearMatchesSpec", fn := fun _ => fun
  | [d1, d2] => { results := [.lit (.bool true)], args := [d1, d2] }
  | _ => none }
def drillNearMatchesSpecRow : OpenClaim := { program := "ytlibmodfpkhdpaa", sum := "189b372c3935a776631ae24012196e1a3bd8042b9aa26089852a397998aae116", func := "etchhouse/etchhouselaw8.DrillNearMatchesSpec", spec := "drillNearMatchesSpec", unfollowed := true, recurses := true, plainKeys := false, apart := false }
def DrillNearMatchesSpecSaid : Prop := drillNearMatchesSpecRow.holds Try.pinned (OpenSpec.ofChange drillNearMatchesSpecSpec)

/-- ITS FALSE NEIGHBOUR: 'it returns false'. Refute it at one input. -/
def drillNearMatchesSpecWrong : ChangeSpec := { name := "drillNearMatchesSpec", fn := fun _ => fun
  | [d1, d2] => { results := [.lit (.bool false)], args := [d1, d2] }
  | _ => none }
def DrillNearMatchesSpecWrongFalsely : Prop := drillNearMatchesSpecRow.holds Try.pinned (OpenSpec.ofChange drillNearMatchesSpecWrong)

/-- 'etchhouselaw8.DrillShortestMatchesSpec': WHATEVER THE INPUT: true; the input reads as it did. -/
def drillShortestMatchesSpecSpec : ChangeSpec := { name := "drillShortestMatchesSpec", fn := fun _ => fun
  | [d1, d2] => { results := [.lit (.bool true)], args := [d1, d2] }
  | _ => none }
def drillShortestMatchesSpecRow : OpenClaim := { program := "ytlibmodfpkhdpaa", sum := "189b372c3935a776631ae24012196e1a3bd8042b9aa26089852a397998aae116", func := "etchhouse/etchhouselaw8.DrillShortestMatchesSpec", spec := "drillShortestMatchesSpec", unfollowed := true, recurses := true, plainKeys := false, apart := false }
def DrillShortestMatchesSpecSaid : Prop := drillShortestMatchesSpecRow.holds Try.pinned (OpenSpec.ofChange drillShortestMatchesSpecSpec)

/-- ITS FALSE NEIGHBOUR: 'it returns false'. Refute it at one input. -/
def drillShortestMatchesSpecWrong : ChangeSpec := { name := "drillShortestMatchesSpec", fn := fun _ => fun
  | [d1, d2] => { results := [.lit (.bool false)], args := [d1, d2] }
  | _ => none }
def DrillShortestMatchesSpecWrongFalsely : Prop := drillShortestMatchesSpecRow.holds Try.pinned (OpenSpec.ofChange drillShortestMatchesSpecWrong)

/-- 'etchhouselaw8.DrillBetterMatchesSpec': WHATEVER THE INPUT: true; the input reads as it did. -/
def drillBetterMatchesSpecSpec : ChangeSpec := { name := "drillBetterMatchesSpec", fn := fun _ => fun
  | [d1, d2] => { results := [.lit (.bool true)], args := [d1, d2] }
  | _ => none }
def drillBetterMatchesSpecRow : OpenClaim := { program := "ytlibmodfpkhdpaa", sum := "189b372c3935a776631ae24012196e1a3bd8042b9aa26089852a397998aae116", func := "etchhouse/etchhouselaw8.DrillBetterMatchesSpec", spec := "drillBetterMatchesSpec", unfollowed := true, recurses := true, plainKeys := false, apart := false }
def DrillBetterMatchesSpecSaid : Prop := drillBetterMatchesSpecRow.holds Try.pinned (OpenSpec.ofChange drillBetterMatchesSpecSpec)

/-- ITS FALSE NEIGHBOUR: 'it returns false'. Refute it at one input. -/
def drillBetterMatchesSpecWrong : ChangeSpec := { name := "drillBetterMatchesSpec", fn := fun _ => fun
  | [d1, d2] => { results := [.lit (.bool false)], args := [d1, d2] }
  | _ => none }
def DrillBetterMatchesSpecWrongFalsely : Prop := drillBetterMatchesSpecRow.holds Try.pinned (OpenSpec.ofChange drillBetterMatchesSpecWrong)

/-- 'etchhouselaw8.DrillOrdersAreOrders': WHATEVER THE INPUT: true; the input reads as it did. -/
def drillOrdersAreOrdersSpec : ChangeSpec := { name := "drillOrdersAreOrders", fn := fun _ => fun
  | [d1, d2] => { results := [.lit (.bool true)], args := [d1, d2] }
  | _ => none }
def drillOrdersAreOrdersRow : OpenClaim := { program := "ytlibmodfpkhdpaa", sum := "189b372c3935a776631ae24012196e1a3bd8042b9aa26089852a397998aae116", func := "etchhouse/etchhouselaw8.DrillOrdersAreOrders", spec := "drillOrdersAreOrders", unfollowed := true, recurses := true, plainKeys := false, apart := false }
def DrillOrdersAreOrdersSaid : Prop := drillOrdersAreOrdersRow.holds Try.pinned (OpenSpec.ofChange drillOrdersAreOrdersSpec)

/-- ITS FALSE NEIGHBOUR: 'it returns false'. Refute it at one input. -/
def drillOrdersAreOrdersWrong : ChangeSpec := { name := "drillOrdersAreOrders", fn := fun _ => fun
  | [d1, d2] => { results := [.lit (.bool false)], args := [d1, d2] }
  | _ => none }
def DrillOrdersAreOrdersWrongFalsely : Prop := drillOrdersAreOrdersRow.holds Try.pinned (OpenSpec.ofChange drillOrdersAreOrdersWrong)

/- THE SECOND FORM. 'bulk': how many values and letters a reading holds, each counted each time it is reached (what is shared counts as often as it is met; a slice's spare places count too). A statement '..UptoSaid' is the law's where the arguments, and the package variables that the reading takes, are together of bulk at most 1048576: NARROWER than '..Said'. Prove '..Said' where nothing that the law and all that it calls make is longer than what came in: it says more and counts as full. Else prove '..UptoSaid'. A law counts once. -/
mutual
def uptoBulk {H : Type} : DataW H → Nat
  | .lit (.string bytes) => bytes.length + 1
  | .lit _ => 1
  | .nil => 1
  | .ptr d => uptoBulk d + 1
  | .slice elems spare => uptoBulkAll elems + uptoBulkAll spare + 1
  | .agg parts => uptoBulkAll parts + 1
  | .iface _ d => uptoBulk d + 1
  | .map entries => uptoBulkEntries entries + 1
  | .held _ => 1
def uptoBulkAll {H : Type} : List (DataW H) → Nat
  | [] => 0
  | d :: r => uptoBulk d + uptoBulkAll r
def uptoBulkEntries {H : Type} : List (Lit × DataW H) → Nat
  | [] => 0
  | x :: r => uptoBulkEntry x + uptoBulkEntries r
def uptoBulkEntry {H : Type} : Lit × DataW H → Nat
  | (.string bytes, d) => bytes.length + uptoBulk d + 1
  | (_, d) => uptoBulk d + 1
 end
def uptoSmall : (H : Type) → List (DataW H) → Bool := fun _ ds => decide (uptoBulkAll ds ≤ 1048576)
def OpenSpec.upto (s : _root_.Go.ChangeSpec) : _root_.Go.OpenSpec := { _root_.Go.OpenSpec.ofChange s with cond := some uptoSmall }

/-- 'etchhouselaw8.DrillWaysMatchSpec', WHERE WHAT IT READS IS OF BULK AT MOST 1048576: true; the input reads as it did. -/
def drillWaysMatchSpecUptoRow : OpenClaim := { program := "ytlibmodfpkhdpaa", sum := "189b372c3935a776631ae24012196e1a3bd8042b9aa26089852a397998aae116", func := "etchhouse/etchhouselaw8.DrillWaysMatchSpec", spec := "drillWaysMatchSpec", unfollowed := true, recurses := true, plainKeys := false, apart := false, narrowed := true }
def DrillWaysMatchSpecUptoSaid : Prop := drillWaysMatchSpecUptoRow.holds Try.pinned (OpenSpec.upto drillWaysMatchSpecSpec)

/-- 'etchhouselaw8.DrillNearGrows', WHERE WHAT IT READS IS OF BULK AT MOST 1048576: true; the input reads as it did. -/
def drillNearGrowsUptoRow : OpenClaim := { program := "ytlibmodfpkhdpaa", sum := "189b372c3935a776631ae24012196e1a3bd8042b9aa26089852a397998aae116", func := "etchhouse/etchhouselaw8.DrillNearGrows", spec := "drillNearGrows", unfollowed := true, recurses := true, plainKeys := false, apart := false, narrowed := true }
def DrillNearGrowsUptoSaid : Prop := drillNearGrowsUptoRow.holds Try.pinned (OpenSpec.upto drillNearGrowsSpec)

/-- 'etchhouselaw8.DrillNearMatchesSpec', WHERE WHAT IT READS IS OF BULK AT MOST 1048576: true; the input reads as it did. -/
def drillNearMatchesSpecUptoRow : OpenClaim := { program := "ytlibmodfpkhdpaa", sum := "189b372c3935a776631ae24012196e1a3bd8042b9aa26089852a397998aae116", func := "etchhouse/etchhouselaw8.DrillNearMatchesSpec", spec := "drillNearMatchesSpec", unfollowed := true, recurses := true, plainKeys := false, apart := false, narrowed := true }
def DrillNearMatchesSpecUptoSaid : Prop := drillNearMatchesSpecUptoRow.holds Try.pinned (OpenSpec.upto drillNearMatchesSpecSpec)

/-- 'etchhouselaw8.DrillShortestMatchesSpec', WHERE WHAT IT READS IS OF BULK AT MOST 1048576: true; the input reads as it did. -/
def drillShortestMatchesSpecUptoRow : OpenClaim := { program := "ytlibmodfpkhdpaa", sum := "189b372c3935a776631ae24012196e1a3bd8042b9aa26089852a397998aae116", func := "etchhouse/etchhouselaw8.DrillShortestMatchesSpec", spec := "drillShortestMatchesSpec", unfollowed := true, recurses := true, plainKeys := false, apart := false, narrowed := true }
def DrillShortestMatchesSpecUptoSaid : Prop := drillShortestMatchesSpecUptoRow.holds Try.pinned (OpenSpec.upto drillShortestMatchesSpecSpec)

/-- 'etchhouselaw8.DrillBetterMatchesSpec', WHERE WHAT IT READS IS OF BULK AT MOST 1048576: true; the input reads as it did. -/
def drillBetterMatchesSpecUptoRow : OpenClaim := { program := "ytlibmodfpkhdpaa", sum := "189b372c3935a776631ae24012196e1a3bd8042b9aa26089852a397998aae116", func := "etchhouse/etchhouselaw8.DrillBetterMatchesSpec", spec := "drillBetterMatchesSpec", unfollowed := true, recurses := true, plainKeys := false, apart := false, narrowed := true }
def DrillBetterMatchesSpecUptoSaid : Prop := drillBetterMatchesSpecUptoRow.holds Try.pinned (OpenSpec.upto drillBetterMatchesSpecSpec)

/-- 'etchhouselaw8.DrillOrdersAreOrders', WHERE WHAT IT READS IS OF BULK AT MOST 1048576: true; the input reads as it did. -/
def drillOrdersAreOrdersUptoRow : OpenClaim := { program := "ytlibmodfpkhdpaa", sum := "189b372c3935a776631ae24012196e1a3bd8042b9aa26089852a397998aae116", func := "etchhouse/etchhouselaw8.DrillOrdersAreOrders", spec := "drillOrdersAreOrders", unfollowed := true, recurses := true, plainKeys := false, apart := false, narrowed := true }
def DrillOrdersAreOrdersUptoSaid : Prop := drillOrdersAreOrdersUptoRow.holds Try.pinned (OpenSpec.upto drillOrdersAreOrdersSpec)

end Rows
end Go.Proofs.Ytlibmodfpkhdpaa
