/- DrillChosenMatchesSpec holds: for every input it returns true and leaves its arguments as they read; no further condition. -/
import Derived.Test.YtmhhodnackfhmaaRows
import Derived.Test.YtmhhodnackfhmaaFnDrillChosenMatchesSpec1
namespace Go.Proofs.Ytmhhodnackfhmaa
open Go Go.VM Go.ChangeShapes Go.WideShapes Go.ChangeAt Go.RowKit
namespace LDrillChosenMatchesSpec
theorem own : ownKnob Try.prog.godebug = none := by kernel_rfl
theorem laidOut : laidOutB Try.prog = true := by kernel_rfl
theorem inst : ∀ x, FineAll [(.sl (.pair .str (.pair i (.pair i (.pair i .unit))))), (.sl (.pair (.pair i (.pair i .unit)) (.pair i (.pair i (.pair .bool .unit))))), i] x → ∃ o, InstOK Try.prog ⟨4, Try.f4, .two (.reg []) (.two (.reg [(3, 0)]) (.two (.reg [(3, 1)]) (.two (.reg [(6, 2), (11, 3), (14, 4)]) (.leaf)))), pvs [(.sl (.pair .str (.pair i (.pair i (.pair i .unit))))), (.sl (.pair (.pair i (.pair i .unit)) (.pair i (.pair i (.pair .bool .unit))))), i], .cons .flat .bool .nil⟩ x ((true, ()), o) := fun (x0, x1, x2, ()) hf =>
  ⟨((), (), (), ()), RunOK.inst it_etchhouselaw8_DrillChosenMatchesSpec (E_etchhouselaw8_DrillChosenMatchesSpec.ok (x0, x1, x2, ()) ((true, ()), ((), (), (), ())) (law x0 x1 x2))⟩
set_option maxRecDepth 100000 in
theorem lifted (os : Os) (started : os.Started) (H : Type) (enc : TypeId × Value → H) :
    ReturnsInHanded {} Try.checked os 4 .any (Rows.drillChosenMatchesSpecSpec.pre6 enc Try.prog Try.f4 Rows.drillChosenMatchesSpecRow.domain false) (Rows.drillChosenMatchesSpecSpec.post enc Try.prog Try.f4 false true false false) := by
  refine returnsInHanded_of_change (C := Try.checked) own started (by kernel_rfl) Try.func4
    (ChangeSpec.witness6 (enc := enc) (C := Try.checked) false ⟨#[], #[.slice none 0 0, .slice none 0 0, .int .i64 0], []⟩ 8 (by kernel_rfl) (by kernel_rfl) (by kernel_rfl) (by kernel_rfl)) ?_
  intro W base args ds gs before hval0 hW hcnd _
  have hval : ∀ (j : Nat) t v, Try.f4.params[j]? = some t → args[j]? = some v → Value.okWide Try.prog W .any base t v := hval0
  have hW' := hW
  obtain ⟨p, q, hA0, hV, rfl, hfz, hnd⟩ := hW
  have hA : DataW.TrodAll enc Try.prog W 0 (fun _ => true) true Try.f4.params.toList args.toList ds p := hA0
  rw [Try.params4] at hA hval
  obtain ⟨rfl, rfl⟩ := trodVars_none hV
  refine (law_calls tok (l := [(.sl (.pair .str (.pair i (.pair i (.pair i .unit))))), (.sl (.pair (.pair i (.pair i .unit)) (.pair i (.pair i (.pair .bool .unit))))), i]) (by kernel_rfl) hA (fun j t v a b => hval j t v (by simpa using a) (by simpa using b)) inst).mono fun e W' ⟨he, bel⟩ => ?_
  subst he
  have back := trodAll_back laidOut bel (by kernel_rfl) hA
  obtain ⟨v0, vs0, d0, ds0, p0, q0, e0, rfl, rfl, h0, r0⟩ := trodAll_cons hA
  obtain ⟨v1, vs1, d1, ds1, p1, q1, rfl, rfl, rfl, h1, r1⟩ := trodAll_cons r0
  obtain ⟨v2, vs2, d2, ds2, p2, q2, rfl, rfl, rfl, h2, r2⟩ := trodAll_cons r1
  obtain ⟨rfl, rfl, rfl⟩ := trodAll_nil r2
  obtain rfl : args = #[v0, v1, v2] := by cases args; simp_all
  exact ⟨_, rfl, _, _, _, [], _, [], hW', trodAll_mk1 (shut_bool Try.underlying4 _), back, rfl, bel.frame _, fun h => by cases h⟩
theorem over : Rows.DrillChosenMatchesSpecSaid :=
  OpenClaim.holds_of_wide 4 Try.f4 rfl rfl rfl rfl rfl rfl rfl ⟨rfl, rfl, rfl, rfl, rfl⟩ rfl rfl rfl rfl rfl (by kernel_rfl) Try.func4 (by kernel_rfl)
    (of_decide_eq_true (by kernel_rfl)) (by unfold Func.isWrapper; first | (rw [if_pos (by decide +kernel)]; kernel_rfl) | (rw [if_neg (by decide +kernel)]; exact ⟨rfl, rfl⟩))
    (fun os started H enc _ => lifted os started H enc)
end LDrillChosenMatchesSpec
/-- The row, under a short name, for the claim. -/
theorem drillChosenMatchesSpec_holds : Rows.DrillChosenMatchesSpecSaid := LDrillChosenMatchesSpec.over
#print axioms drillChosenMatchesSpec_holds
end Go.Proofs.Ytmhhodnackfhmaa
