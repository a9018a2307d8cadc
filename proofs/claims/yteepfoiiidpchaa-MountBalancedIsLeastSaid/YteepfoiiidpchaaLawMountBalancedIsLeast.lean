/- MountBalancedIsLeast holds: for every input it returns true and leaves its arguments as they read; no further condition. -/
import Derived.Test.YteepfoiiidpchaaRows
import Derived.Test.YteepfoiiidpchaaFnMountBalancedIsLeast1
namespace Go.Proofs.Yteepfoiiidpchaa
open Go Go.VM Go.ChangeShapes Go.WideShapes Go.ChangeAt Go.RowKit
namespace LMountBalancedIsLeast
theorem own : ownKnob Try.prog.godebug = none := by kernel_rfl
theorem laidOut : laidOutB Try.prog = true := by kernel_rfl
theorem inst : ∀ x, FineAll [(.sl i), (.sl .bool)] x → ∃ o, InstOK Try.prog ⟨4, Try.f4, .two (.reg []) (.two (.reg [(1, 0)]) (.two (.two (.reg []) (.two (.two (.reg [(8, 1)]) (.leaf)) (.leaf))) (.two (.reg []) (.two (.two (.reg []) (.one (.loop ⟨[(8, .pv i), (9, .pv i), (10, .pv i), (33, .pv i)], [], [1, 5, 6, 31, 32], [5]⟩ (.two (.reg []) (.two (.two (.leaf) (.leaf)) (.two (.one (.two (.reg []) (.two (.reg []) (.two (.two (.reg [(2, 2)]) (.two (.reg []) (.leaf))) (.two (.reg []) (.two (.reg []) (.leaf))))))) (.reg []))))))) (.two (.reg [(17, 1)]) (.leaf)))))), pvs [(.sl i), (.sl .bool)], .cons .flat .bool .nil⟩ x ((true, ()), o) := fun (x0, x1, ()) hf =>
  ⟨((), (), ()), (E_etchhouselaw10_MountBalancedIsLeast.ok (x0, x1, ()) ((true, ()), ((), (), ())) (law x0 x1)).2⟩
set_option maxRecDepth 100000 in
theorem lifted (os : Os) (started : os.Started) (H : Type) (enc : TypeId × Value → H) :
    ReturnsInHanded {} Try.checked os 4 .any (Rows.mountBalancedIsLeastSpec.pre6 enc Try.prog Try.f4 Rows.mountBalancedIsLeastRow.domain false) (Rows.mountBalancedIsLeastSpec.post enc Try.prog Try.f4 false true false false) := by
  refine returnsInHanded_of_change (C := Try.checked) own started (by kernel_rfl) Try.func4
    (ChangeSpec.witness6 (enc := enc) (C := Try.checked) false ⟨#[], #[.slice none 0 0, .slice none 0 0], []⟩ 8 (by kernel_rfl) (by kernel_rfl) (by kernel_rfl) (by kernel_rfl)) ?_
  intro W base args ds gs before hval0 hW hcnd _
  have hval : ∀ (j : Nat) t v, Try.f4.params[j]? = some t → args[j]? = some v → Value.okWide Try.prog W .any base t v := hval0
  have hW' := hW
  obtain ⟨p, q, hA0, hV, rfl, hfz, hnd⟩ := hW
  have hA : DataW.TrodAll enc Try.prog W 0 (fun _ => true) true Try.f4.params.toList args.toList ds p := hA0
  rw [Try.params4] at hA hval
  obtain ⟨rfl, rfl⟩ := trodVars_none hV
  refine (law_calls tok (l := [(.sl i), (.sl .bool)]) (by kernel_rfl) hA (fun j t v a b => hval j t v (by simpa using a) (by simpa using b)) inst).mono fun e W' ⟨he, bel⟩ => ?_
  subst he
  have back := trodAll_back laidOut bel (by kernel_rfl) hA
  obtain ⟨v0, vs0, d0, ds0, p0, q0, e0, rfl, rfl, h0, r0⟩ := trodAll_cons hA
  obtain ⟨v1, vs1, d1, ds1, p1, q1, rfl, rfl, rfl, h1, r1⟩ := trodAll_cons r0
  obtain ⟨rfl, rfl, rfl⟩ := trodAll_nil r1
  obtain rfl : args = #[v0, v1] := by cases args; simp_all
  exact ⟨_, rfl, _, _, _, [], _, [], hW', trodAll_mk1 (shut_bool Try.underlying4 _), back, rfl, bel.frame _, fun h => by cases h⟩
theorem over : Rows.MountBalancedIsLeastSaid :=
  OpenClaim.holds_of_wide 4 Try.f4 rfl rfl rfl rfl rfl rfl rfl ⟨rfl, rfl, rfl, rfl, rfl⟩ rfl rfl rfl rfl rfl (by kernel_rfl) Try.func4 (by kernel_rfl)
    (of_decide_eq_true (by kernel_rfl)) (by unfold Func.isWrapper; first | (rw [if_pos (by decide +kernel)]; kernel_rfl) | (rw [if_neg (by decide +kernel)]; exact ⟨rfl, rfl⟩))
    (fun os started H enc _ => lifted os started H enc)
end LMountBalancedIsLeast
/-- The row, under a short name, for the claim. -/
theorem mountBalancedIsLeast_holds : Rows.MountBalancedIsLeastSaid := LMountBalancedIsLeast.over
#print axioms mountBalancedIsLeast_holds
end Go.Proofs.Yteepfoiiidpchaa
