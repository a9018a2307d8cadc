/-
  No cell of these rows narrows 'for every input' (looked for: loops, veiled, ifaces, maps, wideKeys, modest, calm, conditions, laid).
  DERIVED. THE GIVEN ROWS OF THIS SEAT. 4 by the template 'for every input the law returns true; each argument reads behind the call as it read before'; 0 by the template 'total and deterministic' (their statements: YteepfoiiidpchaaTotals.lean).
  GIVEN WITH THE SEED: the statements are not yours to turn. If you find one false, say at which input.
  Laid BY PROGRAM, IN A SANDBOX (cutbox-rows.mjs): the forced cells as the released guide's own fill.sh prints them over the translation d02897b17af0b0a5… (all of the seat's roots in one cut). By AI agents, Wed Nov 11 2026. No macro, syntax, notation, axiom, sorry.
-/
import Derived.Test.YteepfoiiidpchaaChecked
import GoSem.Claim
import GoSem.ClaimJoined
import GoSem.ClaimMapViews
import Derived.JoinedTies
import Derived.KernelRfl
namespace Go.Proofs.Yteepfoiiidpchaa
/- THE CELL 'sum', in the pinned program and in every row, IS THE sha256 OF THE DUMP (.gsa) THAT YteepfoiiidpchaaProg.lean LOADS. Nothing in Lean hashes anything: it is a label: what it is worth is what the hold of that sum in a sandbox is worth. -/
noncomputable def Try.pinned : Pinned := { name := "yteepfoiiidpchaa", sum := "d02897b17af0b0a5fc1208bbd11a9d27efb92c839bbd78a04719a7ef98eef6f9", checked := Try.checked }
namespace Rows
def none {H : Type} : Left H := { results := [], args := [] }

/-- 'etchhouselaw10.MountBalancedMatchesSpec': WHATEVER THE INPUT: true; the input reads as it did. -/
def mountBalancedMatchesSpecSpec : ChangeSpec := { name := "mountBalancedMatchesSpec", fn := fun _ => fun
  | [d] => { results := [.lit (.bool true)], args := [d] }
  | _ => none }
def mountBalancedMatchesSpecRow : OpenClaim := { program := "yteepfoiiidpchaa", sum := "d02897b17af0b0a5fc1208bbd11a9d27efb92c839bbd78a04719a7ef98eef6f9", func := "etchhouse/etchhouselaw10.MountBalancedMatchesSpec", spec := "mountBalancedMatchesSpec", unfollowed := true, recurses := true, apart := false }
def MountBalancedMatchesSpecSaid : Prop := mountBalancedMatchesSpecRow.holds Try.pinned (OpenSpec.ofChange mountBalancedMatchesSpecSpec)

/-- ITS FALSE NEIGHBOUR: 'it returns false'. Refute it at one input. -/
def mountBalancedMatchesSpecWrong : ChangeSpec := { name := "mountBalancedMatchesSpec", fn := fun _ => fun
  | [d] => { results := [.lit (.bool false)], args := [d] }
  | _ => none }
def MountBalancedMatchesSpecWrongFalsely : Prop := mountBalancedMatchesSpecRow.holds Try.pinned (OpenSpec.ofChange mountBalancedMatchesSpecWrong)

/-- 'etchhouselaw10.MountBalancedIsLeast': WHATEVER THE INPUT: true; the input reads as it did. -/
def mountBalancedIsLeastSpec : ChangeSpec := { name := "mountBalancedIsLeast", fn := fun _ => fun
  | [d1, d2] => { results := [.lit (.bool true)], args := [d1, d2] }
  | _ => none }
def mountBalancedIsLeastRow : OpenClaim := { program := "yteepfoiiidpchaa", sum := "d02897b17af0b0a5fc1208bbd11a9d27efb92c839bbd78a04719a7ef98eef6f9", func := "etchhouse/etchhouselaw10.MountBalancedIsLeast", spec := "mountBalancedIsLeast", unfollowed := true, recurses := true, apart := false }
def MountBalancedIsLeastSaid : Prop := mountBalancedIsLeastRow.holds Try.pinned (OpenSpec.ofChange mountBalancedIsLeastSpec)

/-- ITS FALSE NEIGHBOUR: 'it returns false'. Refute it at one input. -/
def mountBalancedIsLeastWrong : ChangeSpec := { name := "mountBalancedIsLeast", fn := fun _ => fun
  | [d1, d2] => { results := [.lit (.bool false)], args := [d1, d2] }
  | _ => none }
def MountBalancedIsLeastWrongFalsely : Prop := mountBalancedIsLeastRow.holds Try.pinned (OpenSpec.ofChange mountBalancedIsLeastWrong)

/-- 'etchhouselaw10.MountBestMatchesSpec': WHATEVER THE INPUT: true; the input reads as it did. -/
def mountBestMatchesSpecSpec : ChangeSpec := { name := "mountBestMatchesSpec", fn := fun _ => fun
  | [d1, d2] => { results := [.lit (.bool true)], args := [d1, d2] }
  | _ => none }
def mountBestMatchesSpecRow : OpenClaim := { program := "yteepfoiiidpchaa", sum := "d02897b17af0b0a5fc1208bbd11a9d27efb92c839bbd78a04719a7ef98eef6f9", func := "etchhouse/etchhouselaw10.MountBestMatchesSpec", spec := "mountBestMatchesSpec", inPlace := ["internal/bytealg.IndexByteString"], unfollowed := true, recurses := true, apart := false }
def MountBestMatchesSpecSaid : Prop := mountBestMatchesSpecRow.holds Try.pinned (OpenSpec.ofChange mountBestMatchesSpecSpec)

/-- ITS FALSE NEIGHBOUR: 'it returns false'. Refute it at one input. -/
def mountBestMatchesSpecWrong : ChangeSpec := { name := "mountBestMatchesSpec", fn := fun _ => fun
  | [d1, d2] => { results := [.lit (.bool false)], args := [d1, d2] }
  | _ => none }
def MountBestMatchesSpecWrongFalsely : Prop := mountBestMatchesSpecRow.holds Try.pinned (OpenSpec.ofChange mountBestMatchesSpecWrong)

/-- 'etchhouselaw10.MountBestIsJohnson': WHATEVER THE INPUT: true; the input reads as it did. -/
def mountBestIsJohnsonSpec : ChangeSpec := { name := "mountBestIsJohnson", fn := fun _ => fun
  | [d1, d2] => { results := [.lit (.bool true)], args := [d1, d2] }
  | _ => none }
def mountBestIsJohnsonRow : OpenClaim := { program := "yteepfoiiidpchaa", sum := "d02897b17af0b0a5fc1208bbd11a9d27efb92c839bbd78a04719a7ef98eef6f9", func := "etchhouse/etchhouselaw10.MountBestIsJohnson", spec := "mountBestIsJohnson", inPlace := ["internal/bytealg.IndexByteString", "slices.overlaps[int]"], unfollowed := true, recurses := true, apart := false }
def MountBestIsJohnsonSaid : Prop := mountBestIsJohnsonRow.holds Try.pinned (OpenSpec.ofChange mountBestIsJohnsonSpec)

/-- ITS FALSE NEIGHBOUR: 'it returns false'. Refute it at one input. -/
def mountBestIsJohnsonWrong : ChangeSpec := { name := "mountBestIsJohnson", fn := fun _ => fun
  | [d1, d2] => { results := [.lit (.bool false)], args := [d1, d2] }
  | _ => none }
def MountBestIsJohnsonWrongFalsely : Prop := mountBestIsJohnsonRow.holds Try.pinned (OpenSpec.ofChange mountBestIsJohnsonWrong)

/- THE SECOND FORM. 'bulk': how many values and letters a reading holds, each counted each time it is reached (what is shared counts as often as it is met; a slice's spare places count too). A statement '..UptoSaid' is the law's where the arguments, and the package variables that the reading takes, are together of bulk at most 1048576: NARROWER than '..Said'. Prove '..Said' where nothing that the law and all that it calls make is longer than what came in: it says more and counts as full. Else prove '..UptoSaid'. A law counts once. -/
mutual
def uptoBulk {H : Type} : DataW H → Nat
  | .lit (.string bytes) => bytes.length + 1
  | .lit _ => 1
  | .nil => 1
  | .ptr d => uptoBulk d + 1
  | .slice elems spare => uptoBulkAll elems + uptoBulkAll spare + 1
  | .agg parts => uptoBulkAll parts + 1
  | .iface _ d => uptoBulk d + 1
  | .map entries => uptoBulkEntries entries + 1
  | .held _ => 1
def uptoBulkAll {H : Type} : List (DataW H) → Nat
  | [] => 0
  | d :: r => uptoBulk d + uptoBulkAll r
def uptoBulkEntries {H : Type} : List (Lit × DataW H) → Nat
  | [] => 0
  | x :: r => uptoBulkEntry x + uptoBulkEntries r
def uptoBulkEntry {H : Type} : Lit × DataW H → Nat
  | (.string bytes, d) => bytes.length + uptoBulk d + 1
  | (_, d) => uptoBulk d + 1
 end
def uptoSmall : (H : Type) → List (DataW H) → Bool := fun _ ds => decide (uptoBulkAll ds ≤ 1048576)
def OpenSpec.upto (s : _root_.Go.ChangeSpec) : _root_.Go.OpenSpec := { _root_.Go.OpenSpec.ofChange s with cond := some uptoSmall }

/-- 'etchhouselaw10.MountBalancedMatchesSpec', WHERE WHAT IT READS IS OF BULK AT MOST 1048576: true; the input reads as it did. -/
def mountBalancedMatchesSpecUptoRow : OpenClaim := { program := "yteepfoiiidpchaa", sum := "d02897b17af0b0a5fc1208bbd11a9d27efb92c839bbd78a04719a7ef98eef6f9", func := "etchhouse/etchhouselaw10.MountBalancedMatchesSpec", spec := "mountBalancedMatchesSpec", unfollowed := true, recurses := true, apart := false, narrowed := true }
def MountBalancedMatchesSpecUptoSaid : Prop := mountBalancedMatchesSpecUptoRow.holds Try.pinned (OpenSpec.upto mountBalancedMatchesSpecSpec)

/-- 'etchhouselaw10.MountBalancedIsLeast', WHERE WHAT IT READS IS OF BULK AT MOST 1048576: true; the input reads as it did. -/
def mountBalancedIsLeastUptoRow : OpenClaim := { program := "yteepfoiiidpchaa", sum := "d02897b17af0b0a5fc1208bbd11a9d27efb92c839bbd78a04719a7ef98eef6f9", func := "etchhouse/etchhouselaw10.MountBalancedIsLeast", spec := "mountBalancedIsLeast", unfollowed := true, recurses := true, apart := false, narrowed := true }
def MountBalancedIsLeastUptoSaid : Prop := mountBalancedIsLeastUptoRow.holds Try.pinned (OpenSpec.upto mountBalancedIsLeastSpec)

/-- 'etchhouselaw10.MountBestMatchesSpec', WHERE WHAT IT READS IS OF BULK AT MOST 1048576: true; the input reads as it did. -/
def mountBestMatchesSpecUptoRow : OpenClaim := { program := "yteepfoiiidpchaa", sum := "d02897b17af0b0a5fc1208bbd11a9d27efb92c839bbd78a04719a7ef98eef6f9", func := "etchhouse/etchhouselaw10.MountBestMatchesSpec", spec := "mountBestMatchesSpec", inPlace := ["internal/bytealg.IndexByteString"], unfollowed := true, recurses := true, apart := false, narrowed := true }
def MountBestMatchesSpecUptoSaid : Prop := mountBestMatchesSpecUptoRow.holds Try.pinned (OpenSpec.upto mountBestMatchesSpecSpec)

/-- 'etchhouselaw10.MountBestIsJohnson', WHERE WHAT IT READS IS OF BULK AT MOST 1048576: true; the input reads as it did. -/
def mountBestIsJohnsonUptoRow : OpenClaim := { program := "yteepfoiiidpchaa", sum := "d02897b17af0b0a5fc1208bbd11a9d27efb92c839bbd78a04719a7ef98eef6f9", func := "etchhouse/etchhouselaw10.MountBestIsJohnson", spec := "mountBestIsJohnson", inPlace := ["internal/bytealg.IndexByteString", "slices.overlaps[int]"], unfollowed := true, recurses := true, apart := false, narrowed := true }
def MountBestIsJohnsonUptoSaid : Prop := mountBestIsJohnsonUptoRow.holds Try.pinned (OpenSpec.upto mountBestIsJohnsonSpec)

end Rows
end Go.Proofs.Yteepfoiiidpchaa
