/- DrillNoBitIsWorn holds: for every input it returns true and leaves its arguments as they read; no further condition. -/
import Derived.Test.YtmhhodnackfhmaaRows
import Derived.Test.YtmhhodnackfhmaaFnDrillNoBitIsWorn1
namespace Go.Proofs.Ytmhhodnackfhmaa
open Go Go.VM Go.ChangeShapes Go.WideShapes Go.ChangeAt Go.RowKit
namespace LDrillNoBitIsWorn
theorem own : ownKnob Try.prog.godebug = none := by kernel_rfl
theorem laidOut : laidOutB Try.prog = true := by kernel_rfl
theorem inst : ∀ x, FineAll [(.sl (.pair .str (.pair i (.pair i (.pair i .unit))))), (.sl (.pair .str (.pair (.sl (.pair (.pair i (.pair i .unit)) (.pair i (.pair i (.pair .bool .unit))))) .unit)))] x → ∃ o, InstOK Try.prog ⟨3, Try.f3, .two (.reg []) (.two (.reg [(2, 0)]) (.two (.two (.reg []) (.two (.two (.reg [(4, 1)]) (.leaf)) (.leaf))) (.two (.two (.reg []) (.one (.loop ⟨[(34, .pv i)], [], [0, 5, 32, 33], [5]⟩ (.two (.reg []) (.two (.two (.leaf) (.leaf)) (.two (.one (.two (.reg []) (.two (.reg []) (.two (.two (.reg []) (.one (.loop ⟨[(9, .pv i), (41, .pv i)], [], [0, 5, 7, 8, 10, 32, 33, 34, 39, 40], [5, 8]⟩ (.two (.reg []) (.two (.two (.leaf) (.leaf)) (.two (.one (.two (.reg []) (.two (.reg []) (.two (.reg []) (.leaf))))) (.reg []))))))) (.two (.reg []) (.two (.two (.reg []) (.one (.loop ⟨[(10, .pv i), (13, .pv i), (55, .pv i)], [], [0, 5, 7, 8, 9, 32, 33, 34, 53, 54], [5, 8]⟩ (.two (.reg []) (.two (.two (.leaf) (.leaf)) (.two (.one (.two (.reg []) (.two (.two (.reg []) (.two (.leaf) (.leaf))) (.two (.two (.reg []) (.two (.two (.reg []) (.leaf)) (.leaf))) (.two (.reg []) (.reg [])))))) (.reg []))))))) (.two (.two (.reg []) (.two (.two (.reg []) (.leaf)) (.leaf))) (.two (.reg []) (.one (.loop ⟨[(96, .pv i)], [], [0, 5, 8, 10, 32, 33, 34, 94, 95], [5, 8]⟩ (.two (.reg []) (.two (.two (.leaf) (.leaf)) (.two (.one (.two (.reg []) (.two (.reg []) (.two (.two (.reg []) (.leaf)) (.leaf))))) (.reg [])))))))))))))) (.reg []))))))) (.two (.reg [(0, 1)]) (.leaf))))), pvs [(.sl (.pair .str (.pair i (.pair i (.pair i .unit))))), (.sl (.pair .str (.pair (.sl (.pair (.pair i (.pair i .unit)) (.pair i (.pair i (.pair .bool .unit))))) .unit)))], .cons .flat .bool .nil⟩ x ((true, ()), o) := fun (x0, x1, ()) hf =>
  ⟨((), (), ()), RunOK.inst it_etchhouselaw8_DrillNoBitIsWorn (E_etchhouselaw8_DrillNoBitIsWorn.ok (x0, x1, ()) ((true, ()), ((), (), ())) (law x0 x1))⟩
set_option maxRecDepth 100000 in
theorem lifted (os : Os) (started : os.Started) (H : Type) (enc : TypeId × Value → H) :
    ReturnsInHanded {} Try.checked os 3 .any (Rows.drillNoBitIsWornSpec.pre6 enc Try.prog Try.f3 Rows.drillNoBitIsWornRow.domain false) (Rows.drillNoBitIsWornSpec.post enc Try.prog Try.f3 false true false false) := by
  refine returnsInHanded_of_change (C := Try.checked) own started (by kernel_rfl) Try.func3
    (ChangeSpec.witness6 (enc := enc) (C := Try.checked) false ⟨#[], #[.slice none 0 0, .slice none 0 0], []⟩ 8 (by kernel_rfl) (by kernel_rfl) (by kernel_rfl) (by kernel_rfl)) ?_
  intro W base args ds gs before hval0 hW hcnd _
  have hval : ∀ (j : Nat) t v, Try.f3.params[j]? = some t → args[j]? = some v → Value.okWide Try.prog W .any base t v := hval0
  have hW' := hW
  obtain ⟨p, q, hA0, hV, rfl, hfz, hnd⟩ := hW
  have hA : DataW.TrodAll enc Try.prog W 0 (fun _ => true) true Try.f3.params.toList args.toList ds p := hA0
  rw [Try.params3] at hA hval
  obtain ⟨rfl, rfl⟩ := trodVars_none hV
  refine (law_calls tok (l := [(.sl (.pair .str (.pair i (.pair i (.pair i .unit))))), (.sl (.pair .str (.pair (.sl (.pair (.pair i (.pair i .unit)) (.pair i (.pair i (.pair .bool .unit))))) .unit)))]) (by kernel_rfl) hA (fun j t v a b => hval j t v (by simpa using a) (by simpa using b)) inst).mono fun e W' ⟨he, bel⟩ => ?_
  subst he
  have back := trodAll_back laidOut bel (by kernel_rfl) hA
  obtain ⟨v0, vs0, d0, ds0, p0, q0, e0, rfl, rfl, h0, r0⟩ := trodAll_cons hA
  obtain ⟨v1, vs1, d1, ds1, p1, q1, rfl, rfl, rfl, h1, r1⟩ := trodAll_cons r0
  obtain ⟨rfl, rfl, rfl⟩ := trodAll_nil r1
  obtain rfl : args = #[v0, v1] := by cases args; simp_all
  exact ⟨_, rfl, _, _, _, [], _, [], hW', trodAll_mk1 (shut_bool Try.underlying4 _), back, rfl, bel.frame _, fun h => by cases h⟩
theorem over : Rows.DrillNoBitIsWornSaid :=
  OpenClaim.holds_of_wide 3 Try.f3 rfl rfl rfl rfl rfl rfl rfl ⟨rfl, rfl, rfl, rfl, rfl⟩ rfl rfl rfl rfl rfl (by kernel_rfl) Try.func3 (by kernel_rfl)
    (of_decide_eq_true (by kernel_rfl)) (by unfold Func.isWrapper; first | (rw [if_pos (by decide +kernel)]; kernel_rfl) | (rw [if_neg (by decide +kernel)]; exact ⟨rfl, rfl⟩))
    (fun os started H enc _ => lifted os started H enc)
end LDrillNoBitIsWorn
/-- The row, under a short name, for the claim. -/
theorem drillNoBitIsWorn_holds : Rows.DrillNoBitIsWornSaid := LDrillNoBitIsWorn.over
#print axioms drillNoBitIsWorn_holds
end Go.Proofs.Ytmhhodnackfhmaa
