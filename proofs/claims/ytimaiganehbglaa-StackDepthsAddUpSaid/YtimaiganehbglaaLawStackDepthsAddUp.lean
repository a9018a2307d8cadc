/- StackDepthsAddUp holds: for every input it returns true and leaves its arguments as they read; no further condition. -/
import Derived.Test.YtimaiganehbglaaRows
import Derived.Test.YtimaiganehbglaaFnStackDepthsAddUp1
namespace Go.Proofs.Ytimaiganehbglaa
open Go Go.VM Go.ChangeShapes Go.WideShapes Go.ChangeAt Go.RowKit
namespace LStackDepthsAddUp
theorem own : ownKnob Try.prog.godebug = none := by kernel_rfl
theorem laidOut : laidOutB Try.prog = true := by kernel_rfl
theorem inst : ∀ x, FineAll [(.sl (.pair .str (.pair i (.pair i (.pair i .unit))))), (.sl (.pair .str (.pair .str .unit))), .str, .str] x → ∃ o, InstOK Try.prog ⟨5, Try.f5, .two (.reg []) (.two (.reg [(3, 0)]) (.two (.reg [(3, 0)]) (.two (.reg [(4, 1)]) (.two (.two (.reg []) (.two (.two (.reg [(7, 2)]) (.leaf)) (.leaf))) (.two (.two (.reg []) (.two (.two (.reg [(8, 2)]) (.leaf)) (.leaf))) (.two (.reg []) (.two (.two (.reg []) (.one (.loop ⟨[(15, .pv i), (76, .pv i)], [], [0, 1, 2, 3, 9, 11, 13, 74, 75], []⟩ (.two (.reg []) (.two (.two (.leaf) (.leaf)) (.two (.one (.two (.reg []) (.two (.reg []) (.one (.loop ⟨[(15, .pv i), (82, .pv i)], [], [0, 1, 2, 3, 9, 11, 13, 17, 74, 75, 76, 80, 81], [17]⟩ (.two (.reg []) (.two (.two (.leaf) (.leaf)) (.two (.one (.two (.reg []) (.two (.reg [(19, 3), (35, 3)]) (.two (.reg []) (.leaf))))) (.reg []))))))))) (.reg []))))))) (.two (.reg [(12, 2)]) (.leaf))))))))), pvs [(.sl (.pair .str (.pair i (.pair i (.pair i .unit))))), (.sl (.pair .str (.pair .str .unit))), .str, .str], .cons .flat .bool .nil⟩ x ((true, ()), o) := fun (x0, x1, x2, x3, ()) hf =>
  ⟨((), (), (), (), ()), RunOK.inst it_etchhouselaw4_StackDepthsAddUp (E_etchhouselaw4_StackDepthsAddUp.ok (x0, x1, x2, x3, ()) ((true, ()), ((), (), (), (), ())) (law x0 x1 x2 x3))⟩
set_option maxRecDepth 100000 in
theorem lifted (os : Os) (started : os.Started) (H : Type) (enc : TypeId × Value → H) :
    ReturnsInHanded {} Try.checked os 5 .any (Rows.stackDepthsAddUpSpec.pre6 enc Try.prog Try.f5 Rows.stackDepthsAddUpRow.domain false) (Rows.stackDepthsAddUpSpec.post enc Try.prog Try.f5 false true false false) := by
  refine returnsInHanded_of_change (C := Try.checked) own started (by kernel_rfl) Try.func5
    (ChangeSpec.witness6 (enc := enc) (C := Try.checked) false ⟨#[], #[.slice none 0 0, .slice none 0 0, .string ByteArray.empty, .string ByteArray.empty], []⟩ 8 (by kernel_rfl) (by kernel_rfl) (by kernel_rfl) (by kernel_rfl)) ?_
  intro W base args ds gs before hval0 hW hcnd _
  have hval : ∀ (j : Nat) t v, Try.f5.params[j]? = some t → args[j]? = some v → Value.okWide Try.prog W .any base t v := hval0
  have hW' := hW
  obtain ⟨p, q, hA0, hV, rfl, hfz, hnd⟩ := hW
  have hA : DataW.TrodAll enc Try.prog W 0 (fun _ => true) true Try.f5.params.toList args.toList ds p := hA0
  rw [Try.params5] at hA hval
  obtain ⟨rfl, rfl⟩ := trodVars_none hV
  refine (law_calls tok (l := [(.sl (.pair .str (.pair i (.pair i (.pair i .unit))))), (.sl (.pair .str (.pair .str .unit))), .str, .str]) (by kernel_rfl) hA (fun j t v a b => hval j t v (by simpa using a) (by simpa using b)) inst).mono fun e W' ⟨he, bel⟩ => ?_
  subst he
  have back := trodAll_back laidOut bel (by kernel_rfl) hA
  obtain ⟨v0, vs0, d0, ds0, p0, q0, e0, rfl, rfl, h0, r0⟩ := trodAll_cons hA
  obtain ⟨v1, vs1, d1, ds1, p1, q1, rfl, rfl, rfl, h1, r1⟩ := trodAll_cons r0
  obtain ⟨v2, vs2, d2, ds2, p2, q2, rfl, rfl, rfl, h2, r2⟩ := trodAll_cons r1
  obtain ⟨v3, vs3, d3, ds3, p3, q3, rfl, rfl, rfl, h3, r3⟩ := trodAll_cons r2
  obtain ⟨rfl, rfl, rfl⟩ := trodAll_nil r3
  obtain rfl : args = #[v0, v1, v2, v3] := by cases args; simp_all
  exact ⟨_, rfl, _, _, _, [], _, [], hW', trodAll_mk1 (shut_bool Try.underlying4 _), back, rfl, bel.frame _, fun h => by cases h⟩
theorem over : Rows.StackDepthsAddUpSaid :=
  OpenClaim.holds_of_wide 5 Try.f5 rfl rfl rfl rfl rfl rfl rfl ⟨rfl, rfl, rfl, rfl, rfl⟩ rfl rfl rfl rfl rfl (by kernel_rfl) Try.func5 (by kernel_rfl)
    (of_decide_eq_true (by kernel_rfl)) (by unfold Func.isWrapper; first | (rw [if_pos (by decide +kernel)]; kernel_rfl) | (rw [if_neg (by decide +kernel)]; exact ⟨rfl, rfl⟩))
    (fun os started H enc _ => lifted os started H enc)
end LStackDepthsAddUp
/-- The row, under a short name, for the claim. -/
theorem stackDepthsAddUp_holds : Rows.StackDepthsAddUpSaid := LStackDepthsAddUp.over
#print axioms stackDepthsAddUp_holds
end Go.Proofs.Ytimaiganehbglaa
