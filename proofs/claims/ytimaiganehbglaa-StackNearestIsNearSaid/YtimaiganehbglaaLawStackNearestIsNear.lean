/- StackNearestIsNear holds: for every input it returns true and leaves its arguments as they read; no further condition. -/
import Derived.Test.YtimaiganehbglaaRows
import Derived.Test.YtimaiganehbglaaFnStackNearestIsNear1
namespace Go.Proofs.Ytimaiganehbglaa
open Go Go.VM Go.ChangeShapes Go.WideShapes Go.ChangeAt Go.RowKit
namespace LStackNearestIsNear
theorem own : ownKnob Try.prog.godebug = none := by kernel_rfl
theorem laidOut : laidOutB Try.prog = true := by kernel_rfl
theorem inst : ∀ x, FineAll [(.sl (.pair .str (.pair i (.pair i (.pair i .unit))))), (.sl (.pair .str (.pair .str .unit))), i, i, (.sl i)] x → ∃ o, InstOK Try.prog ⟨7, Try.f7, .two (.reg []) (.two (.reg [(4, 0)]) (.two (.two (.reg []) (.two (.two (.reg [(8, 1)]) (.leaf)) (.leaf))) (.two (.reg [(3, 2)]) (.two (.two (.reg []) (.two (.two (.reg []) (.leaf)) (.leaf))) (.two (.reg []) (.two (.two (.reg []) (.one (.loop ⟨[(16, .st (.at (.rf 16 []))), (56, .pv i)], [(16, ⟨(.own .flat), (.sl i), false, false⟩)], [0, 1, 2, 3, 4, 12, 55], []⟩ (.two (.reg []) (.two (.two (.leaf) (.leaf)) (.two (.one (.two (.reg []) (.two (.reg []) (.two (.two (.reg []) (.two (.reg [(5, 3)]) (.leaf))) (.reg []))))) (.reg []))))))) (.two (.reg [(3, 2)]) (.two (.reg [(4, 4), (7, 4), (11, 1)]) (.leaf))))))))), pvs [(.sl (.pair .str (.pair i (.pair i (.pair i .unit))))), (.sl (.pair .str (.pair .str .unit))), i, i, (.sl i)], .cons .flat .bool .nil⟩ x ((true, ()), o) := fun (x0, x1, x2, x3, x4, ()) hf =>
  ⟨((), (), (), (), (), ()), RunOK.inst it_etchhouselaw4_StackNearestIsNear (E_etchhouselaw4_StackNearestIsNear.ok (x0, x1, x2, x3, x4, ()) ((true, ()), ((), (), (), (), (), ())) (law x0 x1 x2 x3 x4))⟩
set_option maxRecDepth 100000 in
theorem lifted (os : Os) (started : os.Started) (H : Type) (enc : TypeId × Value → H) :
    ReturnsInHanded {} Try.checked os 7 .any (Rows.stackNearestIsNearSpec.pre6 enc Try.prog Try.f7 Rows.stackNearestIsNearRow.domain false) (Rows.stackNearestIsNearSpec.post enc Try.prog Try.f7 false true false false) := by
  refine returnsInHanded_of_change (C := Try.checked) own started (by kernel_rfl) Try.func7
    (ChangeSpec.witness6 (enc := enc) (C := Try.checked) false ⟨#[], #[.slice none 0 0, .slice none 0 0, .int .i64 0, .int .i64 0, .slice none 0 0], []⟩ 8 (by kernel_rfl) (by kernel_rfl) (by kernel_rfl) (by kernel_rfl)) ?_
  intro W base args ds gs before hval0 hW hcnd _
  have hval : ∀ (j : Nat) t v, Try.f7.params[j]? = some t → args[j]? = some v → Value.okWide Try.prog W .any base t v := hval0
  have hW' := hW
  obtain ⟨p, q, hA0, hV, rfl, hfz, hnd⟩ := hW
  have hA : DataW.TrodAll enc Try.prog W 0 (fun _ => true) true Try.f7.params.toList args.toList ds p := hA0
  rw [Try.params7] at hA hval
  obtain ⟨rfl, rfl⟩ := trodVars_none hV
  refine (law_calls tok (l := [(.sl (.pair .str (.pair i (.pair i (.pair i .unit))))), (.sl (.pair .str (.pair .str .unit))), i, i, (.sl i)]) (by kernel_rfl) hA (fun j t v a b => hval j t v (by simpa using a) (by simpa using b)) inst).mono fun e W' ⟨he, bel⟩ => ?_
  subst he
  have back := trodAll_back laidOut bel (by kernel_rfl) hA
  obtain ⟨v0, vs0, d0, ds0, p0, q0, e0, rfl, rfl, h0, r0⟩ := trodAll_cons hA
  obtain ⟨v1, vs1, d1, ds1, p1, q1, rfl, rfl, rfl, h1, r1⟩ := trodAll_cons r0
  obtain ⟨v2, vs2, d2, ds2, p2, q2, rfl, rfl, rfl, h2, r2⟩ := trodAll_cons r1
  obtain ⟨v3, vs3, d3, ds3, p3, q3, rfl, rfl, rfl, h3, r3⟩ := trodAll_cons r2
  obtain ⟨v4, vs4, d4, ds4, p4, q4, rfl, rfl, rfl, h4, r4⟩ := trodAll_cons r3
  obtain ⟨rfl, rfl, rfl⟩ := trodAll_nil r4
  obtain rfl : args = #[v0, v1, v2, v3, v4] := by cases args; simp_all
  exact ⟨_, rfl, _, _, _, [], _, [], hW', trodAll_mk1 (shut_bool Try.underlying4 _), back, rfl, bel.frame _, fun h => by cases h⟩
theorem over : Rows.StackNearestIsNearSaid :=
  OpenClaim.holds_of_wide 7 Try.f7 rfl rfl rfl rfl rfl rfl rfl ⟨rfl, rfl, rfl, rfl, rfl⟩ rfl rfl rfl rfl rfl (by kernel_rfl) Try.func7 (by kernel_rfl)
    (of_decide_eq_true (by kernel_rfl)) (by unfold Func.isWrapper; first | (rw [if_pos (by decide +kernel)]; kernel_rfl) | (rw [if_neg (by decide +kernel)]; exact ⟨rfl, rfl⟩))
    (fun os started H enc _ => lifted os started H enc)
end LStackNearestIsNear
/-- The row, under a short name, for the claim. -/
theorem stackNearestIsNear_holds : Rows.StackNearestIsNearSaid := LStackNearestIsNear.over
#print axioms stackNearestIsNear_holds
end Go.Proofs.Ytimaiganehbglaa
