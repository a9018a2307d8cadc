/-
  No cell of these rows narrows 'for every input' (looked for: loops, veiled, ifaces, maps, wideKeys, modest, calm, conditions, laid).
  DERIVED. THE GIVEN ROWS OF THIS SEAT. 6 by the template 'for every input the law returns true; each argument reads behind the call as it read before'; 0 by the template 'total and deterministic' (their statements: YtimaiganehbglaaTotals.lean).
  GIVEN WITH THE SEED: the statements are not yours to turn. If you find one false, say at which input.
  Laid BY PROGRAM, IN A SANDBOX (cutbox-rows.mjs): the forced cells as the released guide's own fill.sh prints them over the translation 37791f7e014b8fd6… (all of the seat's roots in one cut). By AI agents, Wed Nov 11 2026. No macro, syntax, notation, axiom, sorry.
-/
import Derived.Test.YtimaiganehbglaaChecked
import GoSem.Claim
import GoSem.ClaimJoined
import GoSem.ClaimMapViews
import Derived.JoinedTies
import Derived.KernelRfl
namespace Go.Proofs.Ytimaiganehbglaa
/- THE CELL 'sum', in the pinned program and in every row, IS THE sha256 OF THE DUMP (.gsa) THAT YtimaiganehbglaaProg.lean LOADS. Nothing in Lean hashes anything: it is a label: what it is worth is what the hold of that sum in a sandbox is worth. -/
noncomputable def Try.pinned : Pinned := { name := "ytimaiganehbglaa", sum := "37791f7e014b8fd6adf2d5a855155a9501b9c56ab3dd9bb17e6f803bcfa17251", checked := Try.checked }
namespace Rows
def none {H : Type} : Left H := { results := [], args := [] }

/-- 'etchhouselaw4.StackChecksMatchSpec': WHATEVER THE INPUT: true; the input reads as it did. -/
def stackChecksMatchSpecSpec : ChangeSpec := { name := "stackChecksMatchSpec", fn := fun _ => fun
  | [d1, d2] => { results := [.lit (.bool true)], args := [d1, d2] }
  | _ => none }
def stackChecksMatchSpecRow : OpenClaim := { program := "ytimaiganehbglaa", sum := "37791f7e014b8fd6adf2d5a855155a9501b9c56ab3dd9bb17e6f803bcfa17251", func := "etchhouse/etchhouselaw4.StackChecksMatchSpec", spec := "stackChecksMatchSpec", inPlace := ["internal/bytealg.IndexByteString", "internal/bytealg.abigen_runtime_cmpstring"], unfollowed := true, recurses := true, apart := false }
def StackChecksMatchSpecSaid : Prop := stackChecksMatchSpecRow.holds Try.pinned (OpenSpec.ofChange stackChecksMatchSpecSpec)

/-- ITS FALSE NEIGHBOUR: 'it returns false'. Refute it at one input. -/
def stackChecksMatchSpecWrong : ChangeSpec := { name := "stackChecksMatchSpec", fn := fun _ => fun
  | [d1, d2] => { results := [.lit (.bool false)], args := [d1, d2] }
  | _ => none }
def StackChecksMatchSpecWrongFalsely : Prop := stackChecksMatchSpecRow.holds Try.pinned (OpenSpec.ofChange stackChecksMatchSpecWrong)

/-- 'etchhouselaw4.StackDepthsMatchSpec': WHATEVER THE INPUT: true; the input reads as it did. -/
def stackDepthsMatchSpecSpec : ChangeSpec := { name := "stackDepthsMatchSpec", fn := fun _ => fun
  | [d1, d2, d3, d4] => { results := [.lit (.bool true)], args := [d1, d2, d3, d4] }
  | _ => none }
def stackDepthsMatchSpecRow : OpenClaim := { program := "ytimaiganehbglaa", sum := "37791f7e014b8fd6adf2d5a855155a9501b9c56ab3dd9bb17e6f803bcfa17251", func := "etchhouse/etchhouselaw4.StackDepthsMatchSpec", spec := "stackDepthsMatchSpec", inPlace := ["internal/bytealg.IndexByteString", "internal/bytealg.abigen_runtime_cmpstring"], unfollowed := true, recurses := true, apart := false }
def StackDepthsMatchSpecSaid : Prop := stackDepthsMatchSpecRow.holds Try.pinned (OpenSpec.ofChange stackDepthsMatchSpecSpec)

/-- ITS FALSE NEIGHBOUR: 'it returns false'. Refute it at one input. -/
def stackDepthsMatchSpecWrong : ChangeSpec := { name := "stackDepthsMatchSpec", fn := fun _ => fun
  | [d1, d2, d3, d4] => { results := [.lit (.bool false)], args := [d1, d2, d3, d4] }
  | _ => none }
def StackDepthsMatchSpecWrongFalsely : Prop := stackDepthsMatchSpecRow.holds Try.pinned (OpenSpec.ofChange stackDepthsMatchSpecWrong)

/-- 'etchhouselaw4.StackDepthsAddUp': WHATEVER THE INPUT: true; the input reads as it did. -/
def stackDepthsAddUpSpec : ChangeSpec := { name := "stackDepthsAddUp", fn := fun _ => fun
  | [d1, d2, d3, d4] => { results := [.lit (.bool true)], args := [d1, d2, d3, d4] }
  | _ => none }
def stackDepthsAddUpRow : OpenClaim := { program := "ytimaiganehbglaa", sum := "37791f7e014b8fd6adf2d5a855155a9501b9c56ab3dd9bb17e6f803bcfa17251", func := "etchhouse/etchhouselaw4.StackDepthsAddUp", spec := "stackDepthsAddUp", inPlace := ["internal/bytealg.IndexByteString", "internal/bytealg.abigen_runtime_cmpstring"], unfollowed := true, recurses := true, apart := false }
def StackDepthsAddUpSaid : Prop := stackDepthsAddUpRow.holds Try.pinned (OpenSpec.ofChange stackDepthsAddUpSpec)

/-- ITS FALSE NEIGHBOUR: 'it returns false'. Refute it at one input. -/
def stackDepthsAddUpWrong : ChangeSpec := { name := "stackDepthsAddUp", fn := fun _ => fun
  | [d1, d2, d3, d4] => { results := [.lit (.bool false)], args := [d1, d2, d3, d4] }
  | _ => none }
def StackDepthsAddUpWrongFalsely : Prop := stackDepthsAddUpRow.holds Try.pinned (OpenSpec.ofChange stackDepthsAddUpWrong)

/-- 'etchhouselaw4.StackBowMatchesSpec': WHATEVER THE INPUT: true; the input reads as it did. -/
def stackBowMatchesSpecSpec : ChangeSpec := { name := "stackBowMatchesSpec", fn := fun _ => fun
  | [d1, d2] => { results := [.lit (.bool true)], args := [d1, d2] }
  | _ => none }
def stackBowMatchesSpecRow : OpenClaim := { program := "ytimaiganehbglaa", sum := "37791f7e014b8fd6adf2d5a855155a9501b9c56ab3dd9bb17e6f803bcfa17251", func := "etchhouse/etchhouselaw4.StackBowMatchesSpec", spec := "stackBowMatchesSpec", inPlace := ["internal/bytealg.IndexByteString", "internal/bytealg.abigen_runtime_cmpstring"], unfollowed := true, recurses := true, apart := false }
def StackBowMatchesSpecSaid : Prop := stackBowMatchesSpecRow.holds Try.pinned (OpenSpec.ofChange stackBowMatchesSpecSpec)

/-- ITS FALSE NEIGHBOUR: 'it returns false'. Refute it at one input. -/
def stackBowMatchesSpecWrong : ChangeSpec := { name := "stackBowMatchesSpec", fn := fun _ => fun
  | [d1, d2] => { results := [.lit (.bool false)], args := [d1, d2] }
  | _ => none }
def StackBowMatchesSpecWrongFalsely : Prop := stackBowMatchesSpecRow.holds Try.pinned (OpenSpec.ofChange stackBowMatchesSpecWrong)

/-- 'etchhouselaw4.StackNearestIsNear': WHATEVER THE INPUT: true; the input reads as it did. -/
def stackNearestIsNearSpec : ChangeSpec := { name := "stackNearestIsNear", fn := fun _ => fun
  | [d1, d2, d3, d4, d5] => { results := [.lit (.bool true)], args := [d1, d2, d3, d4, d5] }
  | _ => none }
def stackNearestIsNearRow : OpenClaim := { program := "ytimaiganehbglaa", sum := "37791f7e014b8fd6adf2d5a855155a9501b9c56ab3dd9bb17e6f803bcfa17251", func := "etchhouse/etchhouselaw4.StackNearestIsNear", spec := "stackNearestIsNear", inPlace := ["internal/bytealg.IndexByteString", "internal/bytealg.abigen_runtime_cmpstring"], unfollowed := true, recurses := true, apart := false }
def StackNearestIsNearSaid : Prop := stackNearestIsNearRow.holds Try.pinned (OpenSpec.ofChange stackNearestIsNearSpec)

/-- ITS FALSE NEIGHBOUR: 'it returns false'. Refute it at one input. -/
def stackNearestIsNearWrong : ChangeSpec := { name := "stackNearestIsNear", fn := fun _ => fun
  | [d1, d2, d3, d4, d5] => { results := [.lit (.bool false)], args := [d1, d2, d3, d4, d5] }
  | _ => none }
def StackNearestIsNearWrongFalsely : Prop := stackNearestIsNearRow.holds Try.pinned (OpenSpec.ofChange stackNearestIsNearWrong)

/-- 'etchhouselaw4.StackNearestMatchesSpec': WHATEVER THE INPUT: true; the input reads as it did. -/
def stackNearestMatchesSpecSpec : ChangeSpec := { name := "stackNearestMatchesSpec", fn := fun _ => fun
  | [d1, d2, d3, d4] => { results := [.lit (.bool true)], args := [d1, d2, d3, d4] }
  | _ => none }
def stackNearestMatchesSpecRow : OpenClaim := { program := "ytimaiganehbglaa", sum := "37791f7e014b8fd6adf2d5a855155a9501b9c56ab3dd9bb17e6f803bcfa17251", func := "etchhouse/etchhouselaw4.StackNearestMatchesSpec", spec := "stackNearestMatchesSpec", inPlace := ["internal/bytealg.IndexByteString", "internal/bytealg.abigen_runtime_cmpstring"], unfollowed := true, recurses := true, apart := false }
def StackNearestMatchesSpecSaid : Prop := stackNearestMatchesSpecRow.holds Try.pinned (OpenSpec.ofChange stackNearestMatchesSpecSpec)

/-- ITS FALSE NEIGHBOUR: 'it returns false'. Refute it at one input. -/
def stackNearestMatchesSpecWrong : ChangeSpec := { name := "stackNearestMatchesSpec", fn := fun _ => fun
  | [d1, d2, d3, d4] => { results := [.lit (.bool false)], args := [d1, d2, d3, d4] }
  | _ => none }
def StackNearestMatchesSpecWrongFalsely : Prop := stackNearestMatchesSpecRow.holds Try.pinned (OpenSpec.ofChange stackNearestMatchesSpecWrong)

/- THE SECOND FORM. 'bulk': how many values and letters a reading holds, each counted each time it is reached (what is shared counts as often as it is met; a slice's spare places count too). A statement '..UptoSaid' is the law's where the arguments, and the package variables that the reading takes, are together of bulk at most 1048576: NARROWER than '..Said'. Prove '..Said' where nothing that the law and all that it calls make is longer than what came in: it says more and counts as full. Else prove '..UptoSaid'. A law counts once. -/
mutual
def uptoBulk {H : Type} : DataW H → Nat
  | .lit (.string bytes) => bytes.length + 1
  | .lit _ => 1
  | .nil => 1
  | .ptr d => uptoBulk d + 1
  | .slice elems spare => uptoBulkAll elems + uptoBulkAll spare + 1
  | .agg parts => uptoBulkAll parts + 1
  | .iface _ d => uptoBulk d + 1
  | .map entries => uptoBulkEntries entries + 1
  | .held _ => 1
def uptoBulkAll {H : Type} : List (DataW H) → Nat
  | [] => 0
  | d :: r => uptoBulk d + uptoBulkAll r
def uptoBulkEntries {H : Type} : List (Lit × DataW H) → Nat
  | [] => 0
  | x :: r => uptoBulkEntry x + uptoBulkEntries r
def uptoBulkEntry {H : Type} : Lit × DataW H → Nat
  | (.string bytes, d) => bytes.length + uptoBulk d + 1
  | (_, d) => uptoBulk d + 1
 end
def uptoSmall : (H : Type) → List (DataW H) → Bool := fun _ ds => decide (uptoBulkAll ds ≤ 1048576)
def OpenSpec.upto (s : _root_.Go.ChangeSpec) : _root_.Go.OpenSpec := { _root_.Go.OpenSpec.ofChange s with cond := some uptoSmall }

/-- 'etchhouselaw4.StackChecksMatchSpec', WHERE WHAT IT READS IS OF BULK AT MOST 1048576: true; the input reads as it did. -/
def stackChecksMatchSpecUptoRow : OpenClaim := { program := "ytimaiganehbglaa", sum := "37791f7e014b8fd6adf2d5a855155a9501b9c56ab3dd9bb17e6f803bcfa17251", func := "etchhouse/etchhouselaw4.StackChecksMatchSpec", spec := "stackChecksMatchSpec", inPlace := ["internal/bytealg.IndexByteString", "internal/bytealg.abigen_runtime_cmpstring"], unfollowed := true, recurses := true, apart := false, narrowed := true }
def StackChecksMatchSpecUptoSaid : Prop := stackChecksMatchSpecUptoRow.holds Try.pinned (OpenSpec.upto stackChecksMatchSpecSpec)

/-- 'etchhouselaw4.StackDepthsMatchSpec', WHERE WHAT IT READS IS OF BULK AT MOST 1048576: true; the input reads as it did. -/
def stackDepthsMatchSpecUptoRow : OpenClaim := { program := "ytimaiganehbglaa", sum := "37791f7e014b8fd6adf2d5a855155a9501b9c56ab3dd9bb17e6f803bcfa17251", func := "etchhouse/etchhouselaw4.StackDepthsMatchSpec", spec := "stackDepthsMatchSpec", inPlace := ["internal/bytealg.IndexByteString", "internal/bytealg.abigen_runtime_cmpstring"], unfollowed := true, recurses := true, apart := false, narrowed := true }
def StackDepthsMatchSpecUptoSaid : Prop := stackDepthsMatchSpecUptoRow.holds Try.pinned (OpenSpec.upto stackDepthsMatchSpecSpec)

/-- 'etchhouselaw4.StackDepthsAddUp', WHERE WHAT IT READS IS OF BULK AT MOST 1048576: true; the input reads as it did. -/
def stackDepthsAddUpUptoRow : OpenClaim := { program := "ytimaiganehbglaa", sum := "37791f7e014b8fd6adf2d5a855155a9501b9c56ab3dd9bb17e6f803bcfa17251", func := "etchhouse/etchhouselaw4.StackDepthsAddUp", spec := "stackDepthsAddUp", inPlace := ["internal/bytealg.IndexByteString", "internal/bytealg.abigen_runtime_cmpstring"], unfollowed := true, recurses := true, apart := false, narrowed := true }
def StackDepthsAddUpUptoSaid : Prop := stackDepthsAddUpUptoRow.holds Try.pinned (OpenSpec.upto stackDepthsAddUpSpec)

/-- 'etchhouselaw4.StackBowMatchesSpec', WHERE WHAT IT READS IS OF BULK AT MOST 1048576: true; the input reads as it did. -/
def stackBowMatchesSpecUptoRow : OpenClaim := { program := "ytimaiganehbglaa", sum := "37791f7e014b8fd6adf2d5a855155a9501b9c56ab3dd9bb17e6f803bcfa17251", func := "etchhouse/etchhouselaw4.StackBowMatchesSpec", spec := "stackBowMatchesSpec", inPlace := ["internal/bytealg.IndexByteString", "internal/bytealg.abigen_runtime_cmpstring"], unfollowed := true, recurses := true, apart := false, narrowed := true }
def StackBowMatchesSpecUptoSaid : Prop := stackBowMatchesSpecUptoRow.holds Try.pinned (OpenSpec.upto stackBowMatchesSpecSpec)

/-- 'etchhouselaw4.StackNearestIsNear', WHERE WHAT IT READS IS OF BULK AT MOST 1048576: true; the input reads as it did. -/
def stackNearestIsNearUptoRow : OpenClaim := { program := "ytimaiganehbglaa", sum := "37791f7e014b8fd6adf2d5a855155a9501b9c56ab3dd9bb17e6f803bcfa17251", func := "etchhouse/etchhouselaw4.StackNearestIsNear", spec := "stackNearestIsNear", inPlace := ["internal/bytealg.IndexByteString", "internal/bytealg.abigen_runtime_cmpstring"], unfollowed := true, recurses := true, apart := false, narrowed := true }
def StackNearestIsNearUptoSaid : Prop := stackNearestIsNearUptoRow.holds Try.pinned (OpenSpec.upto stackNearestIsNearSpec)

/-- 'etchhouselaw4.StackNearestMatchesSpec', WHERE WHAT IT READS IS OF BULK AT MOST 1048576: true; the input reads as it did. -/
def stackNearestMatchesSpecUptoRow : OpenClaim := { program := "ytimaiganehbglaa", sum := "37791f7e014b8fd6adf2d5a855155a9501b9c56ab3dd9bb17e6f803bcfa17251", func := "etchhouse/etchhouselaw4.StackNearestMatchesSpec", spec := "stackNearestMatchesSpec", inPlace := ["internal/bytealg.IndexByteString", "internal/bytealg.abigen_runtime_cmpstring"], unfollowed := true, recurses := true, apart := false, narrowed := true }
def StackNearestMatchesSpecUptoSaid : Prop := stackNearestMatchesSpecUptoRow.holds Try.pinned (OpenSpec.upto stackNearestMatchesSpecSpec)

end Rows
end Go.Proofs.Ytimaiganehbglaa
