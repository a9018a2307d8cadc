/- What the functions that DrillBetterMatchesSpec reaches compute, part 1; and that the law answers true, for all arguments that a row reads. -/
import Derived.Test.YtlibmodfpkhdpaaProg
import Derived.Test.YtlibmodfpkhdpaaVmDrillBetterMatchesSpec4
namespace Go.Proofs.Ytlibmodfpkhdpaa
open Go Go.VM
abbrev i : Ty := .int .i64
def tab : List (Nat × Ty) := [(22, (.sl (.pair i (.pair i .unit)))), (24, (.pair i (.pair i .unit))), (3, i), (4, .bool), (28, (.sl i)), (25, i), (62, (.sl .bool)), (60, (.sl (.sl i))), (64, (.pair (.sl (.pair i (.pair i .unit))) (.pair (.sl .bool) (.pair (.sl i) (.pair (.sl i) (.pair i .unit))))))]
def ty : Types := mkTypes tab []
theorem tok : TyOK Try.prog ty := tyok_of_check (by kernel_rfl)
end Go.Proofs.Ytlibmodfpkhdpaa
namespace Go.Proofs.Ytlibmodfpkhdpaa
open Go Go.VM
/-! ### etchhouse.shape.within -/
noncomputable def I_shape_within : Inst := ⟨55, Try.f55, .two (.reg []) (.two (.reg []) (.leaf)), (.cons (.pv i) (.cons (.pv i) (.cons (.pv i) .nil))), (.cons .flat .bool .nil)⟩
theorem it_shape_within : InTab Try.prog I_shape_within := ⟨Try.func55, by kernel_rfl, rfl⟩
noncomputable def T_shape_within : Nat → Entry Try.prog := nth (Entry.no Try.f0) []
noncomputable def B_shape_within (x0 : Int) (x1 : Int) (x2 : Int) : Option (((Bool × Unit) × (Unit × (Unit × (Unit × Unit))))) :=
  (bif decide ((x1 ≤ x0)) then
    some ((decide ((x0 ≤ x2)), ()), ((), ((), ((), ()))))
  else
    some ((false, ()), ((), ((), ((), ())))))
theorem B_shape_within_eq (n : Nat) (x0 : Int) (x1 : Int) (x2 : Int) : bodyE ty T_shape_within n I_shape_within (x0, (x1, (x2, ()))) = B_shape_within x0 x1 x2 := by kernel_rfl

end Go.Proofs.Ytlibmodfpkhdpaa
namespace Go.Proofs.Ytlibmodfpkhdpaa
open Go Go.VM
theorem ok_shape_within (x0 x1 x2 : Int) (hok : OkA I_shape_within.args (x0, x1, x2, ())) : ∃ n, bodyE ty T_shape_within n I_shape_within (x0, x1, x2, ()) = some ((S_within x0 x1 x2, ()), ((), (), (), ())) := ⟨0, by
  rw [B_shape_within_eq]; unfold B_shape_within S_within; cases decide (x1 ≤ x0) <;> rfl⟩
noncomputable def E_shape_within : Entry Try.prog := Entry.of tok T_shape_within I_shape_within it_shape_within (fun (x0, x1, x2, ()) => some ((S_within x0 x1 x2, ()), ((), (), (), ()))) (fun (x0, x1, x2, ()) r hok h => by cases h; exact ok_shape_within x0 x1 x2 hok)

end Go.Proofs.Ytlibmodfpkhdpaa
namespace Go.Proofs.Ytlibmodfpkhdpaa
open Go Go.VM
/-! ### etchhouse.shape.IsAt -/
noncomputable def I_shape_IsAt : Inst := ⟨53, Try.f53, .two (.reg []) (.two (.reg [(1, 0)]) (.leaf)), (.cons (.pv i) .nil), (.cons .flat .bool .nil)⟩
theorem it_shape_IsAt : InTab Try.prog I_shape_IsAt := ⟨Try.func53, by kernel_rfl, rfl⟩
noncomputable def T_shape_IsAt : Nat → Entry Try.prog := nth (Entry.no Try.f0) [E_shape_within]
noncomputable def B_shape_IsAt (x0 : Int) : Option (((Bool × Unit) × (Unit × Unit))) :=
  some ((S_within x0 (-1000000) 1000000, ()), ((), ()))
theorem B_shape_IsAt_eq (n : Nat) (x0 : Int) : bodyE ty T_shape_IsAt n I_shape_IsAt (x0, ()) = B_shape_IsAt x0 := by kernel_rfl

end Go.Proofs.Ytlibmodfpkhdpaa
namespace Go.Proofs.Ytlibmodfpkhdpaa
open Go Go.VM
theorem ok_shape_IsAt (x0 : Int) (hok : OkA I_shape_IsAt.args (x0, ())) : ∃ n, bodyE ty T_shape_IsAt n I_shape_IsAt (x0, ()) = some ((S_within x0 (-1000000) 1000000, ()), ((), ())) := ⟨0, by rw [B_shape_IsAt_eq]; rfl⟩
noncomputable def E_shape_IsAt : Entry Try.prog := Entry.of tok T_shape_IsAt I_shape_IsAt it_shape_IsAt (fun (x0, ()) => some ((S_within x0 (-1000000) 1000000, ()), ((), ()))) (fun (x0, ()) r hok h => by cases h; exact ok_shape_IsAt x0 hok)

end Go.Proofs.Ytlibmodfpkhdpaa
namespace Go.Proofs.Ytlibmodfpkhdpaa
open Go Go.VM
/-! ### etchhouse.shape.IsPoint -/
noncomputable def I_shape_IsPoint : Inst := ⟨45, Try.f45, .two (.reg []) (.two (.reg [(2, 0), (6, 0)]) (.leaf)), (.cons (.pv (.pair i (.pair i .unit))) .nil), (.cons .flat .bool .nil)⟩
theorem it_shape_IsPoint : InTab Try.prog I_shape_IsPoint := ⟨Try.func45, by kernel_rfl, rfl⟩
noncomputable def T_shape_IsPoint : Nat → Entry Try.prog := nth (Entry.no Try.f0) [E_shape_IsAt]
noncomputable def B_shape_IsPoint (x0 : (Int × (Int × Unit))) : Option (((Bool × Unit) × (Unit × Unit))) :=
  (bif S_within x0.1 (-1000000) 1000000 then
    some ((S_within x0.2.1 (-1000000) 1000000, ()), ((), ()))
  else
    some ((false, ()), ((), ())))
theorem B_shape_IsPoint_eq (n : Nat) (x0 : (Int × (Int × Unit))) : bodyE ty T_shape_IsPoint n I_shape_IsPoint (x0, ()) = B_shape_IsPoint x0 := by kernel_rfl

end Go.Proofs.Ytlibmodfpkhdpaa
namespace Go.Proofs.Ytlibmodfpkhdpaa
open Go Go.VM
def S_isPt (p : Int × Int × Unit) : Bool := S_within p.1 (-1000000) 1000000 && S_within p.2.1 (-1000000) 1000000
theorem ok_shape_IsPoint (x0 : Int × Int × Unit) (hok : OkA I_shape_IsPoint.args (x0, ())) : ∃ n, bodyE ty T_shape_IsPoint n I_shape_IsPoint (x0, ()) = some ((S_isPt x0, ()), ((), ())) := ⟨0, by
  rw [B_shape_IsPoint_eq]; unfold B_shape_IsPoint S_isPt; cases S_within x0.1 (-1000000) 1000000 <;> rfl⟩
noncomputable def E_shape_IsPoint : Entry Try.prog := Entry.of tok T_shape_IsPoint I_shape_IsPoint it_shape_IsPoint (fun (x0, ()) => some ((S_isPt x0, ()), ((), ()))) (fun (x0, ()) r hok h => by cases h; exact ok_shape_IsPoint x0 hok)

end Go.Proofs.Ytlibmodfpkhdpaa
namespace Go.Proofs.Ytlibmodfpkhdpaa
open Go Go.VM
/-! ### etchhouse.drill.checkPoints$1 -/
noncomputable def I_drill_checkPoints_1 : Inst := ⟨47, Try.f47, .two (.reg []) (.two (.reg [(1, 0)]) (.leaf)), (.cons (.pv (.pair i (.pair i .unit))) .nil), (.cons .flat .bool .nil)⟩
theorem it_drill_checkPoints_1 : InTab Try.prog I_drill_checkPoints_1 := ⟨Try.func47, by kernel_rfl, rfl⟩
noncomputable def T_drill_checkPoints_1 : Nat → Entry Try.prog := nth (Entry.no Try.f0) [E_shape_IsPoint]
noncomputable def B_drill_checkPoints_1 (x0 : (Int × (Int × Unit))) : Option (((Bool × Unit) × (Unit × Unit))) :=
  some (((!(S_isPt x0)), ()), ((), ()))
theorem B_drill_checkPoints_1_eq (n : Nat) (x0 : (Int × (Int × Unit))) : bodyE ty T_drill_checkPoints_1 n I_drill_checkPoints_1 (x0, ()) = B_drill_checkPoints_1 x0 := by kernel_rfl

end Go.Proofs.Ytlibmodfpkhdpaa
namespace Go.Proofs.Ytlibmodfpkhdpaa
open Go Go.VM
theorem ok_drill_checkPoints_1 (x0 : Int × Int × Unit) (hok : OkA I_drill_checkPoints_1.args (x0, ())) : ∃ n, bodyE ty T_drill_checkPoints_1 n I_drill_checkPoints_1 (x0, ()) = some ((!S_isPt x0, ()), ((), ())) := ⟨0, by rw [B_drill_checkPoints_1_eq]; rfl⟩
noncomputable def E_drill_checkPoints_1 : Entry Try.prog := Entry.of tok T_drill_checkPoints_1 I_drill_checkPoints_1 it_drill_checkPoints_1 (fun (x0, ()) => some ((!S_isPt x0, ()), ((), ()))) (fun (x0, ()) r hok h => by cases h; exact ok_drill_checkPoints_1 x0 hok)

end Go.Proofs.Ytlibmodfpkhdpaa
namespace Go.Proofs.Ytlibmodfpkhdpaa
open Go Go.VM
/-! ### slices.IndexFunc[[]etchhouse.api.Point,etchhouse.api.Point] -/
noncomputable def I_slices_IndexFunc_etchhouse_api_Point_etchhouse_api_Point_of_drill_checkPoints_1 : Inst := ⟨54, Try.f54, .two (.reg []) (.two (.two (.reg []) (.one (.loop ⟨[(8, .pv i)], [], [0, 1, 7], []⟩ (.two (.reg []) (.two (.two (.leaf) (.leaf)) (.two (.one (.two (.reg []) (.two (.reg [(5, 0)]) (.two (.two (.reg []) (.leaf)) (.leaf))))) (.reg []))))))) (.two (.reg []) (.leaf))), (.cons (.pv (.sl (.pair i (.pair i .unit)))) (.cons (.fn 47 .nil) .nil)), (.cons .flat i .nil)⟩
theorem it_slices_IndexFunc_etchhouse_api_Point_etchhouse_api_Point_of_drill_checkPoints_1 : InTab Try.prog I_slices_IndexFunc_etchhouse_api_Point_etchhouse_api_Point_of_drill_checkPoints_1 := ⟨Try.func54, by kernel_rfl, rfl⟩
noncomputable def T_slices_IndexFunc_etchhouse_api_Point_etchhouse_api_Point_of_drill_checkPoints_1 : Nat → Entry Try.prog := nth (Entry.no Try.f0) [E_drill_checkPoints_1]
noncomputable def B_slices_IndexFunc_etchhouse_api_Point_etchhouse_api_Point_of_drill_checkPoints_1 (n : Nat) (x0 : List (Int × (Int × Unit))) (x1 : Unit) : Option (((Int × Unit) × (Unit × (Unit × Unit)))) :=
  loopN (fun rec1 => fun
  | ((v1aa, ()), ()) =>
    (bif decide ((v1aa < ((x0.length : Nat) : Int))) then
      (bif inB v1aa x0.length then
        (bif (!(S_isPt (x0.getD v1aa.toNat (0, (0, ()))))) then
          some ((v1aa, ()), ((), ((), ())))
        else
          rec1 ((wrapI .i64 (v1aa + 1), ()), ()))
      else
        none)
    else
      some (((-1), ()), ((), ((), ())))))
  n ((0, ()), ())
theorem B_slices_IndexFunc_etchhouse_api_Point_etchhouse_api_Point_of_drill_checkPoints_1_eq (n : Nat) (x0 : List (Int × (Int × Unit))) (x1 : Unit) : bodyE ty T_slices_IndexFunc_etchhouse_api_Point_etchhouse_api_Point_of_drill_checkPoints_1 n I_slices_IndexFunc_etchhouse_api_Point_etchhouse_api_Point_of_drill_checkPoints_1 (x0, (x1, ())) = B_slices_IndexFunc_etchhouse_api_Point_etchhouse_api_Point_of_drill_checkPoints_1 n x0 x1 := by kernel_rfl

end Go.Proofs.Ytlibmodfpkhdpaa
namespace Go.Proofs.Ytlibmodfpkhdpaa
open Go Go.VM
def S_idxPt : List (Int × Int × Unit) → Nat → Int
  | [], _ => -1
  | a :: r, i => bif S_isPt a then S_idxPt r (i + 1) else (i : Int)
theorem idxPt_neg : ∀ (l : List (Int × Int × Unit)) (i : Nat), decide (0 ≤ S_idxPt l i) = !l.all S_isPt
  | [], i => by simp [S_idxPt]
  | a :: r, i => by
    have ih := idxPt_neg r (i + 1)
    by_cases h : S_isPt a = true
    · have : S_idxPt (a :: r) i = S_idxPt r (i + 1) := by simp only [S_idxPt, h, cond_true]
      rw [this, ih]; simp [h]
    · have h : S_isPt a = false := by simpa using h
      have : S_idxPt (a :: r) i = i := by simp only [S_idxPt, h, cond_false]
      rw [this]; simp [h]
theorem ok_slices_IndexFunc_etchhouse_api_Point_etchhouse_api_Point_of_drill_checkPoints_1 (x0 : List (Int × Int × Unit)) (hok : OkA I_slices_IndexFunc_etchhouse_api_Point_etchhouse_api_Point_of_drill_checkPoints_1.args (x0, (), ())) : ∃ n, bodyE ty T_slices_IndexFunc_etchhouse_api_Point_etchhouse_api_Point_of_drill_checkPoints_1 n I_slices_IndexFunc_etchhouse_api_Point_etchhouse_api_Point_of_drill_checkPoints_1 (x0, (), ()) = some ((S_idxPt x0 0, ()), ((), (), ())) := ⟨x0.length + 1, by
  obtain ⟨⟨hl, _⟩, _⟩ := hok
  rw [B_slices_IndexFunc_etchhouse_api_Point_etchhouse_api_Point_of_drill_checkPoints_1_eq]
  unfold B_slices_IndexFunc_etchhouse_api_Point_etchhouse_api_Point_of_drill_checkPoints_1
  refine (loop_list (l := x0) (fun i (_ : Unit) => ((i, ()), ())) (fun a i _ => bif S_isPt a then .inl () else .inr (some (((i : Int), ()), ((), (), ())))) (fun _ => some ((-1, ()), ((), (), ()))) (fun i h s rec => ?_) (fun s rec => ?_) (Nat.lt_succ_self _) ()).trans ?_
  · simp only [lt_nat h, inB_nat h, getD_lt h, succ64 h hl, cond_true]
    cases S_isPt x0[i] <;> rfl
  · simp only [lt_self, cond_false]
  · have : ∀ (l : List (Int × Int × Unit)) i, goL (fun a i (_ : Unit) => bif S_isPt a then .inl () else .inr (some (((i : Int), ()), ((), (), ())))) (fun _ => some ((-1, ()), ((), (), ()))) l i () = some ((S_idxPt l i, ()), ((), (), ())) := by
      intro l
      induction l with
      | nil => intro i; rfl
      | cons a r ih =>
        intro i
        simp only [goL, S_idxPt]
        cases S_isPt a with
        | true => simpa using ih (i + 1)
        | false => rfl
    exact this x0 0⟩
noncomputable def E_slices_IndexFunc_etchhouse_api_Point_etchhouse_api_Point_of_drill_checkPoints_1 : Entry Try.prog := Entry.of tok T_slices_IndexFunc_etchhouse_api_Point_etchhouse_api_Point_of_drill_checkPoints_1 I_slices_IndexFunc_etchhouse_api_Point_etchhouse_api_Point_of_drill_checkPoints_1 it_slices_IndexFunc_etchhouse_api_Point_etchhouse_api_Point_of_drill_checkPoints_1 (fun (x0, (), ()) => some ((S_idxPt x0 0, ()), ((), (), ()))) (fun (x0, (), ()) r hok h => by cases h; exact ok_slices_IndexFunc_etchhouse_api_Point_etchhouse_api_Point_of_drill_checkPoints_1 x0 hok)

end Go.Proofs.Ytlibmodfpkhdpaa
namespace Go.Proofs.Ytlibmodfpkhdpaa
open Go Go.VM
/-! ### slices.ContainsFunc[[]etchhouse.api.Point,etchhouse.api.Point] -/
noncomputable def I_slices_ContainsFunc_etchhouse_api_Point_etchhouse_api_Point_of_drill_checkPoints_1 : Inst := ⟨46, Try.f46, .two (.reg []) (.two (.reg [(2, 0)]) (.leaf)), (.cons (.pv (.sl (.pair i (.pair i .unit)))) (.cons (.fn 47 .nil) .nil)), (.cons .flat .bool .nil)⟩
theorem it_slices_ContainsFunc_etchhouse_api_Point_etchhouse_api_Point_of_drill_checkPoints_1 : InTab Try.prog I_slices_ContainsFunc_etchhouse_api_Point_etchhouse_api_Point_of_drill_checkPoints_1 := ⟨Try.func46, by kernel_rfl, rfl⟩
noncomputable def T_slices_ContainsFunc_etchhouse_api_Point_etchhouse_api_Point_of_drill_checkPoints_1 : Nat → Entry Try.prog := nth (Entry.no Try.f0) [E_slices_IndexFunc_etchhouse_api_Point_etchhouse_api_Point_of_drill_checkPoints_1]
noncomputable def B_slices_ContainsFunc_etchhouse_api_Point_etchhouse_api_Point_of_drill_checkPoints_1 (x0 : List (Int × (Int × Unit))) (x1 : Unit) : Option (((Bool × Unit) × (Unit × (Unit × Unit)))) :=
  some ((decide ((0 ≤ S_idxPt x0 0)), ()), ((), ((), ())))
theorem B_slices_ContainsFunc_etchhouse_api_Point_etchhouse_api_Point_of_drill_checkPoints_1_eq (n : Nat) (x0 : List (Int × (Int × Unit))) (x1 : Unit) : bodyE ty T_slices_ContainsFunc_etchhouse_api_Point_etchhouse_api_Point_of_drill_checkPoints_1 n I_slices_ContainsFunc_etchhouse_api_Point_etchhouse_api_Point_of_drill_checkPoints_1 (x0, (x1, ())) = B_slices_ContainsFunc_etchhouse_api_Point_etchhouse_api_Point_of_drill_checkPoints_1 x0 x1 := by kernel_rfl

end Go.Proofs.Ytlibmodfpkhdpaa
namespace Go.Proofs.Ytlibmodfpkhdpaa
open Go Go.VM
noncomputable def E_slices_ContainsFunc_etchhouse_api_Point_etchhouse_api_Point_of_drill_checkPoints_1 : Entry Try.prog := Entry.of tok T_slices_ContainsFunc_etchhouse_api_Point_etchhouse_api_Point_of_drill_checkPoints_1 I_slices_ContainsFunc_etchhouse_api_Point_etchhouse_api_Point_of_drill_checkPoints_1 it_slices_ContainsFunc_etchhouse_api_Point_etchhouse_api_Point_of_drill_checkPoints_1 (fun x => B_slices_ContainsFunc_etchhouse_api_Point_etchhouse_api_Point_of_drill_checkPoints_1 x.1 x.2.1) (fun (a0, a1, ()) r _ h => ⟨0, (B_slices_ContainsFunc_etchhouse_api_Point_etchhouse_api_Point_of_drill_checkPoints_1_eq 0 a0 a1).trans h⟩)

end Go.Proofs.Ytlibmodfpkhdpaa
namespace Go.Proofs.Ytlibmodfpkhdpaa
open Go Go.VM
/-! ### etchhouse.drill.checkPoints -/
noncomputable def I_drill_checkPoints : Inst := ⟨26, Try.f26, .two (.reg []) (.two (.two (.reg []) (.two (.two (.reg []) (.leaf)) (.leaf))) (.two (.two (.reg [(1, 0), (5, 1)]) (.two (.two (.reg []) (.leaf)) (.leaf))) (.two (.reg []) (.leaf)))), (.cons (.pv (.sl (.pair i (.pair i .unit)))) (.cons (.pv (.pair i (.pair i .unit))) (.cons (.pv i) .nil))), (.cons .flat i .nil)⟩
theorem it_drill_checkPoints : InTab Try.prog I_drill_checkPoints := ⟨Try.func26, by kernel_rfl, rfl⟩
noncomputable def T_drill_checkPoints : Nat → Entry Try.prog := nth (Entry.no Try.f0) [E_shape_IsPoint, E_slices_ContainsFunc_etchhouse_api_Point_etchhouse_api_Point_of_drill_checkPoints_1]
noncomputable def B_drill_checkPoints (x0 : List (Int × (Int × Unit))) (x1 : (Int × (Int × Unit))) (x2 : Int) : Option (((Int × Unit) × (Unit × (Unit × (Unit × Unit))))) :=
  (bif decide ((x2 < ((x0.length : Nat) : Int))) then
    some ((2, ()), ((), ((), ((), ()))))
  else
    (bif (!(S_isPt x1)) then
      some ((1, ()), ((), ((), ((), ()))))
    else
      ((B_slices_ContainsFunc_etchhouse_api_Point_etchhouse_api_Point_of_drill_checkPoints_1 x0 ()).bind fun ((r1aa, ()), ((), ((), ()))) =>
      (bif r1aa then
        some ((1, ()), ((), ((), ((), ()))))
      else
        some ((0, ()), ((), ((), ((), ()))))))))
theorem B_drill_checkPoints_eq (n : Nat) (x0 : List (Int × (Int × Unit))) (x1 : (Int × (Int × Unit))) (x2 : Int) : bodyE ty T_drill_checkPoints n I_drill_checkPoints (x0, (x1, (x2, ()))) = B_drill_checkPoints x0 x1 x2 := by kernel_rfl

end Go.Proofs.Ytlibmodfpkhdpaa
namespace Go.Proofs.Ytlibmodfpkhdpaa
open Go Go.VM
def S_chk (l : List Pt) (p : Pt) (most : Int) : Int := bif decide (most < (l.length : Int)) then 2 else bif S_isPt p && l.all S_isPt then 0 else 1
theorem ok_drill_checkPoints (x0 : List Pt) (x1 : Pt) (x2 : Int) (hok : OkA I_drill_checkPoints.args (x0, x1, x2, ())) : ∃ n, bodyE ty T_drill_checkPoints n I_drill_checkPoints (x0, x1, x2, ()) = some ((S_chk x0 x1 x2, ()), ((), (), (), ())) := ⟨0, by
  rw [B_drill_checkPoints_eq]
  unfold B_drill_checkPoints S_chk
  cases decide (x2 < (x0.length : Int)) with
  | true => rfl
  | false =>
    cases S_isPt x1 with
    | false => rfl
    | true =>
      have : B_slices_ContainsFunc_etchhouse_api_Point_etchhouse_api_Point_of_drill_checkPoints_1 x0 () = some ((!x0.all S_isPt, ()), ((), ((), ()))) := by
        unfold B_slices_ContainsFunc_etchhouse_api_Point_etchhouse_api_Point_of_drill_checkPoints_1
        rw [idxPt_neg]
      simp only [cond_false, Bool.not_true, this, Option.bind_some, Bool.true_and]
      cases x0.all S_isPt <;> rfl⟩
noncomputable def E_drill_checkPoints : Entry Try.prog := Entry.of tok T_drill_checkPoints I_drill_checkPoints it_drill_checkPoints (fun (x0, x1, x2, ()) => some ((S_chk x0 x1 x2, ()), ((), (), (), ()))) (fun (x0, x1, x2, ()) r hok h => by cases h; exact ok_drill_checkPoints x0 x1 x2 hok)

end Go.Proofs.Ytlibmodfpkhdpaa
namespace Go.Proofs.Ytlibmodfpkhdpaa
open Go Go.VM
/-! ### etchhouse.drill.apart -/
noncomputable def I_drill_apart : Inst := ⟨34, Try.f34, .two (.reg []) (.two (.reg []) (.leaf)), (.cons (.pv i) (.cons (.pv i) .nil)), (.cons .flat i .nil)⟩
theorem it_drill_apart : InTab Try.prog I_drill_apart := ⟨Try.func34, by kernel_rfl, rfl⟩
noncomputable def T_drill_apart : Nat → Entry Try.prog := nth (Entry.no Try.f0) []
noncomputable def B_drill_apart (x0 : Int) (x1 : Int) : Option (((Int × Unit) × (Unit × (Unit × Unit)))) :=
  some (((bif decide ((wrapI .i64 (x0 - x1) < wrapI .i64 (x1 - x0))) then wrapI .i64 (x1 - x0) else wrapI .i64 (x0 - x1)), ()), ((), ((), ())))
theorem B_drill_apart_eq (n : Nat) (x0 : Int) (x1 : Int) : bodyE ty T_drill_apart n I_drill_apart (x0, (x1, ())) = B_drill_apart x0 x1 := by kernel_rfl

end Go.Proofs.Ytlibmodfpkhdpaa
namespace Go.Proofs.Ytlibmodfpkhdpaa
open Go Go.VM
def S_apart (a b : Int) : Int := bif decide (wrapI .i64 (a - b) < wrapI .i64 (b - a)) then wrapI .i64 (b - a) else wrapI .i64 (a - b)
theorem ok_drill_apart (x0 x1 : Int) (hok : OkA I_drill_apart.args (x0, x1, ())) : ∃ n, bodyE ty T_drill_apart n I_drill_apart (x0, x1, ()) = some ((S_apart x0 x1, ()), ((), (), ())) := ⟨0, by rw [B_drill_apart_eq]; rfl⟩
noncomputable def E_drill_apart : Entry Try.prog := Entry.of tok T_drill_apart I_drill_apart it_drill_apart (fun (x0, x1, ()) => some ((S_apart x0 x1, ()), ((), (), ()))) (fun (x0, x1, ()) r hok h => by cases h; exact ok_drill_apart x0 x1 hok)

end Go.Proofs.Ytlibmodfpkhdpaa
namespace Go.Proofs.Ytlibmodfpkhdpaa
open Go Go.VM
/-! ### etchhouse.drill.far -/
noncomputable def I_drill_far : Inst := ⟨39, Try.f39, .two (.reg []) (.two (.draw [(4, 0), (9, 0)] [0, 1, 2, 3, 5, 6, 7, 8, 4, 9, 10, 11] [3, 2]) (.leaf)), (.cons (.pv (.pair i (.pair i .unit))) (.cons (.pv (.pair i (.pair i .unit))) .nil)), (.cons .flat i .nil)⟩
theorem it_drill_far : InTab Try.prog I_drill_far := ⟨Try.func39, by kernel_rfl, rfl⟩
noncomputable def T_drill_far : Nat → Entry Try.prog := nth (Entry.no Try.f0) [E_drill_apart]
noncomputable def B_drill_far (x0 : (Int × (Int × Unit))) (x1 : (Int × (Int × Unit))) : Option (((Int × Unit) × (Unit × (Unit × Unit)))) :=
  some (((bif decide ((S_apart x0.1 x1.1 < S_apart x0.2.1 x1.2.1)) then S_apart x0.2.1 x1.2.1 else S_apart x0.1 x1.1), ()), ((), ((), ())))
theorem B_drill_far_eq (n : Nat) (x0 : (Int × (Int × Unit))) (x1 : (Int × (Int × Unit))) : bodyE ty T_drill_far n I_drill_far (x0, (x1, ())) = B_drill_far x0 x1 := by kernel_rfl

end Go.Proofs.Ytlibmodfpkhdpaa
namespace Go.Proofs.Ytlibmodfpkhdpaa
open Go Go.VM
def S_far (p q : Pt) : Int := bif decide (S_apart p.1 q.1 < S_apart p.2.1 q.2.1) then S_apart p.2.1 q.2.1 else S_apart p.1 q.1
theorem ok_drill_far (x0 x1 : Pt) (hok : OkA I_drill_far.args (x0, x1, ())) : ∃ n, bodyE ty T_drill_far n I_drill_far (x0, x1, ()) = some ((S_far x0 x1, ()), ((), (), ())) := ⟨0, by rw [B_drill_far_eq]; rfl⟩
noncomputable def E_drill_far : Entry Try.prog := Entry.of tok T_drill_far I_drill_far it_drill_far (fun (x0, x1, ()) => some ((S_far x0 x1, ()), ((), (), ()))) (fun (x0, x1, ()) r hok h => by cases h; exact ok_drill_far x0 x1 hok)

end Go.Proofs.Ytlibmodfpkhdpaa
namespace Go.Proofs.Ytlibmodfpkhdpaa
open Go Go.VM
/-! ### etchhouse.drill.greedy -/
noncomputable def I_drill_greedy : Inst := ⟨30, Try.f30, .two (.reg []) (.two (.reg []) (.two (.reg []) (.two (.two (.reg []) (.one (.loop ⟨[(5, .st (.at (.rf 5 []))), (15, .pv i)], [(5, ⟨(.own .flat), (.sl i), false, false⟩), (3, ⟨.flat, (.pair i (.pair i .unit)), true, false⟩), (6, ⟨(.own .flat), (.sl .bool), false, false⟩)], [0, 3, 6, 14], []⟩ (.two (.reg []) (.two (.two (.leaf) (.leaf)) (.two (.one (.two (.reg []) (.two (.two (.reg []) (.one (.loop ⟨[(7, .pv i), (19, .pv i)], [], [0, 3, 5, 6, 14, 15, 17, 18], [3, 5, 6]⟩ (.two (.reg []) (.two (.two (.leaf) (.leaf)) (.two (.one (.two (.reg []) (.two (.draw [(11, 0), (17, 0)] [0, 1, 2, 3, 4, 5, 6, 7, 8, 9, 10, 12, 13, 14, 15, 16, 11, 17, 18, 19, 20] [9, 3, 6]) (.two (.reg []) (.leaf))))) (.reg []))))))) (.two (.reg []) (.draw [] [0, 1, 4, 5, 6, 7, 2, 3, 8, 9] [5, 3]))))) (.reg []))))))) (.two (.reg []) (.leaf))))), (.cons (.pv (.sl (.pair i (.pair i .unit)))) (.cons (.pv (.pair i (.pair i .unit))) .nil)), (.cons (.own .flat) (.sl i) .nil)⟩
theorem it_drill_greedy : InTab Try.prog I_drill_greedy := ⟨Try.func30, by kernel_rfl, rfl⟩
noncomputable def T_drill_greedy : Nat → Entry Try.prog := nth (Entry.no Try.f0) [E_drill_far]
noncomputable def B_drill_greedy (n : Nat) (x0 : List (Int × (Int × Unit))) (x1 : (Int × (Int × Unit))) : Option (((List Int × Unit) × (Unit × (Unit × Unit)))) :=
  (bif ((decide ((0 ≤ ((x0.length : Nat) : Int))) && decide ((((x0.length : Nat) : Int) ≤ ((x0.length : Nat) : Int)))) && decide ((((x0.length : Nat) : Int) ≤ 4294967296))) then
    loopN (fun rec1 => fun
    | ((v1aa, ()), (v1ba, ((v1bbaa, (v1bbaba, ())), (v1bbba, ())))) =>
      (bif decide ((v1aa < ((x0.length : Nat) : Int))) then
        loopN (fun rec2 => fun
        | ((v2aa, (v2aba, ())), ()) =>
          (bif decide ((v2aba < ((x0.length : Nat) : Int))) then
            (bif inB v2aba x0.length then
              (bif inB v2aba v1bbba.length then
                (bif (!(v1bbba.getD v2aba.toNat false)) then
                  (bif decide ((v2aa < 0)) then
                    rec2 ((v2aba, (wrapI .i64 (v2aba + 1), ())), ())
                  else
                    (bif inB v2aa x0.length then
                      (bif decide ((S_far (v1bbaa, (v1bbaba, ())) (x0.getD v2aba.toNat (0, (0, ()))) < S_far (v1bbaa, (v1bbaba, ())) (x0.getD v2aa.toNat (0, (0, ()))))) then
                        rec2 ((v2aba, (wrapI .i64 (v2aba + 1), ())), ())
                      else
                        rec2 ((v2aa, (wrapI .i64 (v2aba + 1), ())), ()))
                    else
                      none))
                else
                  rec2 ((v2aa, (wrapI .i64 (v2aba + 1), ())), ()))
              else
                none)
            else
              none)
          else
            (bif inB v2aa v1bbba.length then
              (bif inB v2aa x0.length then
                (bif decide (((v1ba.length + 1) ≤ 4294967296)) then
                  rec1 ((wrapI .i64 (v1aa + 1), ()), ((v1ba ++ [v2aa]), (x0.getD v2aa.toNat (0, (0, ())), (v1bbba.set v2aa.toNat true, ()))))
                else
                  none)
              else
                none)
            else
              none)))
        n (((-1), (0, ())), ())
      else
        some ((v1ba, ()), ((), ((), ())))))
    n ((0, ()), ([], (x1, (List.replicate (α := Bool) (((x0.length : Nat) : Int).toNat) false, ()))))
  else
    none)
theorem B_drill_greedy_eq (n : Nat) (x0 : List (Int × (Int × Unit))) (x1 : (Int × (Int × Unit))) : bodyE ty T_drill_greedy n I_drill_greedy (x0, (x1, ())) = B_drill_greedy n x0 x1 := by kernel_rfl

end Go.Proofs.Ytlibmodfpkhdpaa
namespace Go.Proofs.Ytlibmodfpkhdpaa
open Go Go.VM
def S_greedyP (x0 : List Pt) (x1 : Pt) : Option ((List Int × Unit) × Unit × Unit × Unit) := bif decide (x0.length ≤ 4294967296) then (S_greedy S_far x0 x1).map (fun o => ((o, ()), ((), (), ()))) else none
theorem ok_drill_greedy (x0 : List Pt) (x1 : Pt) (hok : OkA I_drill_greedy.args (x0, x1, ())) (r) (h : S_greedyP x0 x1 = some r) : ∃ n, bodyE ty T_drill_greedy n I_drill_greedy (x0, x1, ()) = some r := ⟨x0.length + 1, by
  obtain ⟨⟨hl, _⟩, _⟩ := hok
  rw [B_drill_greedy_eq]
  unfold B_drill_greedy
  unfold S_greedyP at h
  cases hd : decide (x0.length ≤ 4294967296) with
  | false => rw [hd] at h; cases h
  | true =>
    rw [hd] at h
    have hd := of_decide_eq_true hd
    have c1 : ((decide ((0 : Int) ≤ ((x0.length : Nat) : Int)) && decide ((((x0.length : Nat) : Int) ≤ ((x0.length : Nat) : Int)))) && decide ((((x0.length : Nat) : Int) ≤ 4294967296))) = true := by simp; omega
    rw [c1, cond_true, ← h, cond_true]
    refine (loop_listI (l := x0) (fun i (s : List Int × Pt × List Bool) => ((i, ()), (s.1, (s.2.1, (s.2.2, ()))))) (fun i s => s.1.length = i ∧ s.2.2.length = x0.length) (greedyB S_far x0) (fun s => some ((s.1, ()), ((), (), ()))) (fun i h => ?_) (fun ⟨o, ⟨a, b, _⟩, u⟩ _ rec => by simp only [lt_self, cond_false]) (Nat.lt_succ_self _) (s := ([], x1, List.replicate x0.length false)) ⟨rfl, by simp⟩).trans ?_
    · rintro ⟨o, ⟨a, b, ⟨⟩⟩, u⟩ ⟨ho, hu⟩
      simp only at ho hu
      obtain ⟨p1, p2⟩ := pick_inv S_far x0 u (a, b, ())
      refine ⟨fun s' hs => ?_, fun rec => ?_⟩
      · simp only [greedyB] at hs
        cases hb : inB (S_pick S_far x0 u (a, b, ())) x0.length with
        | false => rw [hb] at hs; cases hs
        | true => rw [hb] at hs; cases hs; exact ⟨by simp [ho], by simp [hu]⟩
      · simp only [lt_nat h, cond_true]
        refine (loop_fold (l := x0) (fun i (s : Int) => ((s, (i, ())), ())) (fun i b => -1 ≤ b ∧ b < (i : Int)) (pickF S_far x0 u (a, b, ())) _ (fun k hk s hI => ⟨?_, fun rec2 => ?_⟩) (fun s _ rec2 => by simp only [lt_self, cond_false]; exact rfl) (Nat.lt_succ_self _) (s := -1) (by simp)).trans ?_
        · simp only [pickF]
          cases u.getD k false with
          | true => simp only [Bool.not_true, cond_false]; omega
          | false =>
            simp only [Bool.not_false, cond_true]
            cases decide (s < 0) with
            | true => simp only [cond_true]; omega
            | false =>
              simp only [cond_false]
              cases decide (S_far (a, b, ()) x0[k] < S_far (a, b, ()) (x0.getD s.toNat pt0)) with
              | true => simp only [cond_true]; omega
              | false => simp only [cond_false]; omega
        · simp only [lt_nat hk, inB_nat hk, inB_nat (show k < u.length by omega), getD_at hk, succ64 hk hl, cond_true, pickF, Int.toNat_natCast]
          cases u.getD k false with
          | true => simp only [Bool.not_true, cond_false]
          | false =>
            simp only [Bool.not_false, cond_true]
            cases hs0 : decide (s < 0) with
            | true => rfl
            | false =>
              simp only [decide_eq_false_iff_not] at hs0
              simp only [cond_false, inB_int (show 0 ≤ s by omega) (show s < (x0.length : Int) by omega), cond_true]
              show (bif decide (S_far (a, b, ()) x0[k] < S_far (a, b, ()) (x0.getD s.toNat pt0)) then _ else _) = _
              cases decide (S_far (a, b, ()) x0[k] < S_far (a, b, ()) (x0.getD s.toNat pt0)) <;> rfl
        · simp only [greedyB]
          rw [hu]
          change (bif inB (S_pick S_far x0 u (a, b, ())) x0.length then (bif inB (S_pick S_far x0 u (a, b, ())) x0.length then _ else _) else _) = _
          cases inB (S_pick S_far x0 u (a, b, ())) x0.length with
          | false => rfl
          | true =>
            have c3 : decide (o.length + 1 ≤ 4294967296) = true := by simp; omega
            simp only [cond_true, c3, succ64 h hl]
            rfl
    · exact greedy_map _ _ (fun o => ((o, ()), ((), (), ()))) _ _ _⟩
noncomputable def E_drill_greedy : Entry Try.prog := Entry.of tok T_drill_greedy I_drill_greedy it_drill_greedy (fun (x0, x1, ()) => S_greedyP x0 x1) (fun (x0, x1, ()) r hok h => ok_drill_greedy x0 x1 hok r h)

end Go.Proofs.Ytlibmodfpkhdpaa
namespace Go.Proofs.Ytlibmodfpkhdpaa
open Go Go.VM
/-! ### slices.Reverse[[]int,int] -/
noncomputable def I_slices_Reverse_int_int_ios : Inst := ⟨51, Try.f51, .two (.reg []) (.one (.loop ⟨[(2, .pv i), (3, .pv i)], [(1000, ⟨(.len .flat), (.sl i), false, true⟩)], [0], []⟩ (.two (.two (.reg []) (.two (.leaf) (.leaf))) (.two (.one (.draw [] [0, 1, 2, 3, 4, 5, 6, 7, 8, 9, 10, 11, 12, 13, 14, 15] [1000])) (.reg []))))), (.cons (.ios (.len .flat) (.sl i)) .nil), .nil⟩
theorem it_slices_Reverse_int_int_ios : InTab Try.prog I_slices_Reverse_int_int_ios := ⟨Try.func51, by kernel_rfl, rfl⟩
noncomputable def T_slices_Reverse_int_int_ios : Nat → Entry Try.prog := nth (Entry.no Try.f0) []
noncomputable def B_slices_Reverse_int_int_ios (n : Nat) (x0 : List Int) : Option ((Unit × (List Int × Unit))) :=
  loopN (fun rec1 => fun
  | ((v1aa, (v1aba, ())), (v1ba, ())) =>
    (bif decide ((v1aa < v1aba)) then
      (bif inB v1aba v1ba.length then
        (bif inB v1aa v1ba.length then
          (bif inB v1aa v1ba.length then
            (bif inB v1aba ((v1ba.set v1aa.toNat (v1ba.getD v1aba.toNat (0 : Int))).length) then
              rec1 ((wrapI .i64 (v1aa + 1), (wrapI .i64 (v1aba - 1), ())), ((v1ba.set v1aa.toNat (v1ba.getD v1aba.toNat (0 : Int))).set v1aba.toNat (v1ba.getD v1aa.toNat (0 : Int)), ()))
            else
              none)
          else
            none)
        else
          none)
      else
        none)
    else
      some ((), (v1ba, ()))))
  n ((0, (wrapI .i64 (((x0.length : Nat) : Int) - 1), ())), (x0, ()))
theorem B_slices_Reverse_int_int_ios_eq (n : Nat) (x0 : List Int) : bodyE ty T_slices_Reverse_int_int_ios n I_slices_Reverse_int_int_ios (x0, ()) = B_slices_Reverse_int_int_ios n x0 := by kernel_rfl

end Go.Proofs.Ytlibmodfpkhdpaa
namespace Go.Proofs.Ytlibmodfpkhdpaa
open Go Go.VM
theorem ok_slices_Reverse_int_int_ios (x0 : List Int) (hok : OkA I_slices_Reverse_int_int_ios.args (x0, ())) (r) (h : (bif decide (x0.length ≤ 4294967296) then some ((), (S_rev x0, ())) else none) = some r) : ∃ n, bodyE ty T_slices_Reverse_int_int_ios n I_slices_Reverse_int_int_ios (x0, ()) = some r := ⟨x0.length + 1, by
  cases hd : decide (x0.length ≤ 4294967296) with
  | false => rw [hd] at h; cases h
  | true =>
    have hl : x0.length ≤ maxLen := Nat.le_trans (of_decide_eq_true hd) (by decide)
    rw [B_slices_Reverse_int_int_ios_eq, ← h, hd]
    unfold B_slices_Reverse_int_int_ios S_rev
    exact rev_loop (R := fun a => some ((), (a, ()))) (d := 0) hl (Nat.lt_succ_self _)⟩
noncomputable def E_slices_Reverse_int_int_ios : Entry Try.prog := Entry.of tok T_slices_Reverse_int_int_ios I_slices_Reverse_int_int_ios it_slices_Reverse_int_int_ios (fun (x0, ()) => bif decide (x0.length ≤ 4294967296) then some ((), (S_rev x0, ())) else none) (fun (x0, ()) r hok h => ok_slices_Reverse_int_int_ios x0 hok r h)

end Go.Proofs.Ytlibmodfpkhdpaa
namespace Go.Proofs.Ytlibmodfpkhdpaa
open Go Go.VM
/-! ### etchhouse.drill.turn -/
noncomputable def I_drill_turn_ios : Inst := ⟨41, Try.f41, .two (.reg []) (.two (.two (.reg []) (.one (.loop ⟨[(17, .pv i)], [], [0, 2, 4, 16], [1020, 4]⟩ (.two (.reg []) (.two (.two (.leaf) (.leaf)) (.two (.one (.two (.reg []) (.two (.reg []) (.two (.two (.reg []) (.two (.reg []) (.leaf))) (.two (.reg []) (.one (.loop ⟨[(9, .pv i)], [], [0, 2, 4, 7, 8, 16, 17], [1020, 4, 8]⟩ (.two (.two (.reg []) (.two (.leaf) (.leaf))) (.two (.one (.two (.draws [] (.split 15 14 (.leaf [0, 1, 2, 3, 4, 5, 6, 7, 8, 9, 10, 11, 12, 13, 14, 15, 16, 17]) (.leaf [0, 1, 2, 3, 4, 5, 6, 7, 8, 9, 10, 11, 12, 13, 15, 14, 16, 17])) [1020]) (.two (.draw [(2, 0), (5, 0)] [0, 1, 3, 4, 2, 5, 6, 7] [11, 10, 8]) (.two (.two (.reg []) (.two (.two (.reg []) (.draw [(3, 0), (8, 0)] [0, 1, 2, 5, 6, 7, 3, 4, 8, 9, 10, 11] [14, 11, 10])) (.leaf))) (.two (.reg []) (.two (.two (.reg [(5, 1)]) (.two (.reg []) (.leaf))) (.leaf))))))) (.reg [])))))))))) (.reg []))))))) (.two (.reg []) (.leaf))), (.cons (.pv (.sl (.pair i (.pair i .unit)))) (.cons (.pv (.pair i (.pair i .unit))) (.cons (.ios (.len .flat) (.sl i)) .nil))), (.cons .flat .bool .nil)⟩
theorem it_drill_turn_ios : InTab Try.prog I_drill_turn_ios := ⟨Try.func41, by kernel_rfl, rfl⟩
noncomputable def T_drill_turn_ios : Nat → Entry Try.prog := nth (Entry.no Try.f0) [E_drill_far, E_slices_Reverse_int_int_ios]
noncomputable def B_drill_turn_ios (n : Nat) (x0 : List (Int × (Int × Unit))) (x1 : (Int × (Int × Unit))) (x2 : List Int) : Option (((Bool × Unit) × (Unit × (Unit × (List Int × Unit))))) :=
  loopN (fun rec1 => fun
  | ((v1aa, ()), ()) =>
    (bif decide ((v1aa < ((x2.length : Nat) : Int))) then
      (bif decide ((0 < v1aa)) then
        (bif inB (wrapI .i64 (v1aa - 1)) x2.length then
          (bif inB (x2.getD ((wrapI .i64 (v1aa - 1)).toNat) (0 : Int)) x0.length then
            loopN (fun rec2 => fun
            | ((v2aa, ()), ()) =>
              (bif decide ((v2aa < ((x2.length : Nat) : Int))) then
                (both
                  ((bif inB v1aa x2.length then
                    (bif inB (x2.getD v1aa.toNat (0 : Int)) x0.length then
                      (bif inB v2aa x2.length then
                        (bif inB (x2.getD v2aa.toNat (0 : Int)) x0.length then
                          (bif decide ((wrapI .i64 (v2aa + 1) < ((x2.length : Nat) : Int))) then
                            (bif inB (wrapI .i64 (v2aa + 1)) x2.length then
                              (bif inB (x2.getD ((wrapI .i64 (v2aa + 1)).toNat) (0 : Int)) x0.length then
                                (bif decide ((((wrapI .i64 (S_far (x0.getD ((x2.getD ((wrapI .i64 (v1aa - 1)).toNat) (0 : Int)).toNat) (0, (0, ()))) (x0.getD ((x2.getD v2aa.toNat (0 : Int)).toNat) (0, (0, ()))) + S_far (x0.getD ((x2.getD v1aa.toNat (0 : Int)).toNat) (0, (0, ()))) (x0.getD ((x2.getD ((wrapI .i64 (v2aa + 1)).toNat) (0 : Int)).toNat) (0, (0, ()))))) : Int) < wrapI .i64 (S_far (x0.getD ((x2.getD ((wrapI .i64 (v1aa - 1)).toNat) (0 : Int)).toNat) (0, (0, ()))) (x0.getD ((x2.getD v1aa.toNat (0 : Int)).toNat) (0, (0, ()))) + S_far (x0.getD ((x2.getD v2aa.toNat (0 : Int)).toNat) (0, (0, ()))) (x0.getD ((x2.getD ((wrapI .i64 (v2aa + 1)).toNat) (0 : Int)).toNat) (0, (0, ())))))) then
                                  (bif (decide ((0 ≤ wrapI .i64 (v2aa + 1))) && decide ((wrapI .i64 (v2aa + 1) ≤ ((x2.length : Nat) : Int)))) then
                                    (bif (decide ((0 ≤ v1aa)) && decide ((v1aa ≤ (((wrapI .i64 (v2aa + 1)).toNat : Nat) : Int)))) then
                                      (((bif decide ((((x2.drop v1aa.toNat).take ((wrapI .i64 (v2aa + 1)).toNat - v1aa.toNat)).length ≤ 4294967296)) then
                                          some ((), (S_rev ((x2.drop v1aa.toNat).take ((wrapI .i64 (v2aa + 1)).toNat - v1aa.toNat)), ()))
                                        else
                                          none)).bind fun ((), (r3ba, ())) =>
                                      some ((true, ()), ((), ((), (splice x2 v1aa.toNat r3ba, ())))))
                                    else
                                      none)
                                  else
                                    none)
                                else
                                  rec2 ((wrapI .i64 (v2aa + 1), ()), ()))
                              else
                                none)
                            else
                              none)
                          else
                            (bif decide ((((S_far (x0.getD ((x2.getD ((wrapI .i64 (v1aa - 1)).toNat) (0 : Int)).toNat) (0, (0, ()))) (x0.getD ((x2.getD v2aa.toNat (0 : Int)).toNat) (0, (0, ())))) : Int) < S_far (x0.getD ((x2.getD ((wrapI .i64 (v1aa - 1)).toNat) (0 : Int)).toNat) (0, (0, ()))) (x0.getD ((x2.getD v1aa.toNat (0 : Int)).toNat) (0, (0, ()))))) then
                              (bif (decide ((0 ≤ wrapI .i64 (v2aa + 1))) && decide ((wrapI .i64 (v2aa + 1) ≤ ((x2.length : Nat) : Int)))) then
                                (bif (decide ((0 ≤ v1aa)) && decide ((v1aa ≤ (((wrapI .i64 (v2aa + 1)).toNat : Nat) : Int)))) then
                                  (((bif decide ((((x2.drop v1aa.toNat).take ((wrapI .i64 (v2aa + 1)).toNat - v1aa.toNat)).length ≤ 4294967296)) then
                                      some ((), (S_rev ((x2.drop v1aa.toNat).take ((wrapI .i64 (v2aa + 1)).toNat - v1aa.toNat)), ()))
                                    else
                                      none)).bind fun ((), (r4ba, ())) =>
                                  some ((true, ()), ((), ((), (splice x2 v1aa.toNat r4ba, ())))))
                                else
                                  none)
                              else
                                none)
                            else
                              rec2 ((wrapI .i64 (v2aa + 1), ()), ())))
                        else
                          none)
                      else
                        none)
                    else
                      none)
                  else
                    none))
                  ((bif inB v1aa x2.length then
                    (bif inB (x2.getD v1aa.toNat (0 : Int)) x0.length then
                      (bif inB v2aa x2.length then
                        (bif inB (x2.getD v2aa.toNat (0 : Int)) x0.length then
                          (bif decide ((wrapI .i64 (v2aa + 1) < ((x2.length : Nat) : Int))) then
                            (bif inB (wrapI .i64 (v2aa + 1)) x2.length then
                              (bif inB (x2.getD ((wrapI .i64 (v2aa + 1)).toNat) (0 : Int)) x0.length then
                                (bif decide ((((wrapI .i64 (S_far (x0.getD ((x2.getD ((wrapI .i64 (v1aa - 1)).toNat) (0 : Int)).toNat) (0, (0, ()))) (x0.getD ((x2.getD v2aa.toNat (0 : Int)).toNat) (0, (0, ()))) + S_far (x0.getD ((x2.getD v1aa.toNat (0 : Int)).toNat) (0, (0, ()))) (x0.getD ((x2.getD ((wrapI .i64 (v2aa + 1)).toNat) (0 : Int)).toNat) (0, (0, ()))))) : Int) < wrapI .i64 (S_far (x0.getD ((x2.getD ((wrapI .i64 (v1aa - 1)).toNat) (0 : Int)).toNat) (0, (0, ()))) (x0.getD ((x2.getD v1aa.toNat (0 : Int)).toNat) (0, (0, ()))) + S_far (x0.getD ((x2.getD v2aa.toNat (0 : Int)).toNat) (0, (0, ()))) (x0.getD ((x2.getD ((wrapI .i64 (v2aa + 1)).toNat) (0 : Int)).toNat) (0, (0, ())))))) then
                                  (bif (decide ((0 ≤ wrapI .i64 (v2aa + 1))) && decide ((wrapI .i64 (v2aa + 1) ≤ ((x2.length : Nat) : Int)))) then
                                    (bif (decide ((0 ≤ v1aa)) && decide ((v1aa ≤ (((wrapI .i64 (v2aa + 1)).toNat : Nat) : Int)))) then
                                      (((bif decide ((((x2.drop v1aa.toNat).take ((wrapI .i64 (v2aa + 1)).toNat - v1aa.toNat)).length ≤ 4294967296)) then
                                          some ((), (S_rev ((x2.drop v1aa.toNat).take ((wrapI .i64 (v2aa + 1)).toNat - v1aa.toNat)), ()))
                                        else
                                          none)).bind fun ((), (r5ba, ())) =>
                                      some ((true, ()), ((), ((), (splice x2 v1aa.toNat r5ba, ())))))
                                    else
                                      none)
                                  else
                                    none)
                                else
                                  rec2 ((wrapI .i64 (v2aa + 1), ()), ()))
                              else
                                none)
                            else
                              none)
                          else
                            (bif decide ((((S_far (x0.getD ((x2.getD ((wrapI .i64 (v1aa - 1)).toNat) (0 : Int)).toNat) (0, (0, ()))) (x0.getD ((x2.getD v2aa.toNat (0 : Int)).toNat) (0, (0, ())))) : Int) < S_far (x0.getD ((x2.getD ((wrapI .i64 (v1aa - 1)).toNat) (0 : Int)).toNat) (0, (0, ()))) (x0.getD ((x2.getD v1aa.toNat (0 : Int)).toNat) (0, (0, ()))))) then
                              (bif (decide ((0 ≤ wrapI .i64 (v2aa + 1))) && decide ((wrapI .i64 (v2aa + 1) ≤ ((x2.length : Nat) : Int)))) then
                                (bif (decide ((0 ≤ v1aa)) && decide ((v1aa ≤ (((wrapI .i64 (v2aa + 1)).toNat : Nat) : Int)))) then
                                  (((bif decide ((((x2.drop v1aa.toNat).take ((wrapI .i64 (v2aa + 1)).toNat - v1aa.toNat)).length ≤ 4294967296)) then
                                      some ((), (S_rev ((x2.drop v1aa.toNat).take ((wrapI .i64 (v2aa + 1)).toNat - v1aa.toNat)), ()))
                                    else
                                      none)).bind fun ((), (r6ba, ())) =>
                                  some ((true, ()), ((), ((), (splice x2 v1aa.toNat r6ba, ())))))
                                else
                                  none)
                              else
                                none)
                            else
                              rec2 ((wrapI .i64 (v2aa + 1), ()), ())))
                        else
                          none)
                      else
                        none)
                    else
                      none)
                  else
                    none)))
              else
                rec1 ((wrapI .i64 (v1aa + 1), ()), ())))
            n ((wrapI .i64 (v1aa + 1), ()), ())
          else
            none)
        else
          none)
      else
        loopN (fun rec7 => fun
        | ((v7aa, ()), ()) =>
          (bif decide ((v7aa < ((x2.length : Nat) : Int))) then
            (both
              ((bif inB v1aa x2.length then
                (bif inB (x2.getD v1aa.toNat (0 : Int)) x0.length then
                  (bif inB v7aa x2.length then
                    (bif inB (x2.getD v7aa.toNat (0 : Int)) x0.length then
                      (bif decide ((wrapI .i64 (v7aa + 1) < ((x2.length : Nat) : Int))) then
                        (bif inB (wrapI .i64 (v7aa + 1)) x2.length then
                          (bif inB (x2.getD ((wrapI .i64 (v7aa + 1)).toNat) (0 : Int)) x0.length then
                            (bif decide ((((wrapI .i64 (S_far x1 (x0.getD ((x2.getD v7aa.toNat (0 : Int)).toNat) (0, (0, ()))) + S_far (x0.getD ((x2.getD v1aa.toNat (0 : Int)).toNat) (0, (0, ()))) (x0.getD ((x2.getD ((wrapI .i64 (v7aa + 1)).toNat) (0 : Int)).toNat) (0, (0, ()))))) : Int) < wrapI .i64 (S_far x1 (x0.getD ((x2.getD v1aa.toNat (0 : Int)).toNat) (0, (0, ()))) + S_far (x0.getD ((x2.getD v7aa.toNat (0 : Int)).toNat) (0, (0, ()))) (x0.getD ((x2.getD ((wrapI .i64 (v7aa + 1)).toNat) (0 : Int)).toNat) (0, (0, ())))))) then
                              (bif (decide ((0 ≤ wrapI .i64 (v7aa + 1))) && decide ((wrapI .i64 (v7aa + 1) ≤ ((x2.length : Nat) : Int)))) then
                                (bif (decide ((0 ≤ v1aa)) && decide ((v1aa ≤ (((wrapI .i64 (v7aa + 1)).toNat : Nat) : Int)))) then
                                  (((bif decide ((((x2.drop v1aa.toNat).take ((wrapI .i64 (v7aa + 1)).toNat - v1aa.toNat)).length ≤ 4294967296)) then
                                      some ((), (S_rev ((x2.drop v1aa.toNat).take ((wrapI .i64 (v7aa + 1)).toNat - v1aa.toNat)), ()))
                                    else
                                      none)).bind fun ((), (r8ba, ())) =>
                                  some ((true, ()), ((), ((), (splice x2 v1aa.toNat r8ba, ())))))
                                else
                                  none)
                              else
                                none)
                            else
                              rec7 ((wrapI .i64 (v7aa + 1), ()), ()))
                          else
                            none)
                        else
                          none)
                      else
                        (bif decide ((((S_far x1 (x0.getD ((x2.getD v7aa.toNat (0 : Int)).toNat) (0, (0, ())))) : Int) < S_far x1 (x0.getD ((x2.getD v1aa.toNat (0 : Int)).toNat) (0, (0, ()))))) then
                          (bif (decide ((0 ≤ wrapI .i64 (v7aa + 1))) && decide ((wrapI .i64 (v7aa + 1) ≤ ((x2.length : Nat) : Int)))) then
                            (bif (decide ((0 ≤ v1aa)) && decide ((v1aa ≤ (((wrapI .i64 (v7aa + 1)).toNat : Nat) : Int)))) then
                              (((bif decide ((((x2.drop v1aa.toNat).take ((wrapI .i64 (v7aa + 1)).toNat - v1aa.toNat)).length ≤ 4294967296)) then
                                  some ((), (S_rev ((x2.drop v1aa.toNat).take ((wrapI .i64 (v7aa + 1)).toNat - v1aa.toNat)), ()))
                                else
                                  none)).bind fun ((), (r9ba, ())) =>
                              some ((true, ()), ((), ((), (splice x2 v1aa.toNat r9ba, ())))))
                            else
                              none)
                          else
                            none)
                        else
                          rec7 ((wrapI .i64 (v7aa + 1), ()), ())))
                    else
                      none)
                  else
                    none)
                else
                  none)
              else
                none))
              ((bif inB v1aa x2.length then
                (bif inB (x2.getD v1aa.toNat (0 : Int)) x0.length then
                  (bif inB v7aa x2.length then
                    (bif inB (x2.getD v7aa.toNat (0 : Int)) x0.length then
                      (bif decide ((wrapI .i64 (v7aa + 1) < ((x2.length : Nat) : Int))) then
                        (bif inB (wrapI .i64 (v7aa + 1)) x2.length then
                          (bif inB (x2.getD ((wrapI .i64 (v7aa + 1)).toNat) (0 : Int)) x0.length then
                            (bif decide ((((wrapI .i64 (S_far x1 (x0.getD ((x2.getD v7aa.toNat (0 : Int)).toNat) (0, (0, ()))) + S_far (x0.getD ((x2.getD v1aa.toNat (0 : Int)).toNat) (0, (0, ()))) (x0.getD ((x2.getD ((wrapI .i64 (v7aa + 1)).toNat) (0 : Int)).toNat) (0, (0, ()))))) : Int) < wrapI .i64 (S_far x1 (x0.getD ((x2.getD v1aa.toNat (0 : Int)).toNat) (0, (0, ()))) + S_far (x0.getD ((x2.getD v7aa.toNat (0 : Int)).toNat) (0, (0, ()))) (x0.getD ((x2.getD ((wrapI .i64 (v7aa + 1)).toNat) (0 : Int)).toNat) (0, (0, ())))))) then
                              (bif (decide ((0 ≤ wrapI .i64 (v7aa + 1))) && decide ((wrapI .i64 (v7aa + 1) ≤ ((x2.length : Nat) : Int)))) then
                                (bif (decide ((0 ≤ v1aa)) && decide ((v1aa ≤ (((wrapI .i64 (v7aa + 1)).toNat : Nat) : Int)))) then
                                  (((bif decide ((((x2.drop v1aa.toNat).take ((wrapI .i64 (v7aa + 1)).toNat - v1aa.toNat)).length ≤ 4294967296)) then
                                      some ((), (S_rev ((x2.drop v1aa.toNat).take ((wrapI .i64 (v7aa + 1)).toNat - v1aa.toNat)), ()))
                                    else
                                      none)).bind fun ((), (r10ba, ())) =>
                                  some ((true, ()), ((), ((), (splice x2 v1aa.toNat r10ba, ())))))
                                else
                                  none)
                              else
                                none)
                            else
                              rec7 ((wrapI .i64 (v7aa + 1), ()), ()))
                          else
                            none)
                        else
                          none)
                      else
                        (bif decide ((((S_far x1 (x0.getD ((x2.getD v7aa.toNat (0 : Int)).toNat) (0, (0, ())))) : Int) < S_far x1 (x0.getD ((x2.getD v1aa.toNat (0 : Int)).toNat) (0, (0, ()))))) then
                          (bif (decide ((0 ≤ wrapI .i64 (v7aa + 1))) && decide ((wrapI .i64 (v7aa + 1) ≤ ((x2.length : Nat) : Int)))) then
                            (bif (decide ((0 ≤ v1aa)) && decide ((v1aa ≤ (((wrapI .i64 (v7aa + 1)).toNat : Nat) : Int)))) then
                              (((bif decide ((((x2.drop v1aa.toNat).take ((wrapI .i64 (v7aa + 1)).toNat - v1aa.toNat)).length ≤ 4294967296)) then
                                  some ((), (S_rev ((x2.drop v1aa.toNat).take ((wrapI .i64 (v7aa + 1)).toNat - v1aa.toNat)), ()))
                                else
                                  none)).bind fun ((), (r11ba, ())) =>
                              some ((true, ()), ((), ((), (splice x2 v1aa.toNat r11ba, ())))))
                            else
                              none)
                          else
                            none)
                        else
                          rec7 ((wrapI .i64 (v7aa + 1), ()), ())))
                    else
                      none)
                  else
                    none)
                else
                  none)
              else
                none)))
          else
            rec1 ((wrapI .i64 (v1aa + 1), ()), ())))
        n ((wrapI .i64 (v1aa + 1), ()), ()))
    else
      some ((false, ()), ((), ((), (x2, ()))))))
  n ((0, ()), ())
theorem B_drill_turn_ios_eq (n : Nat) (x0 : List (Int × (Int × Unit))) (x1 : (Int × (Int × Unit))) (x2 : List Int) : bodyE ty T_drill_turn_ios n I_drill_turn_ios (x0, (x1, (x2, ()))) = B_drill_turn_ios n x0 x1 x2 := by kernel_rfl

end Go.Proofs.Ytlibmodfpkhdpaa
namespace Go.Proofs.Ytlibmodfpkhdpaa
open Go Go.VM
theorem apart_absZ {a b : Int} (ha : -1000000 ≤ a ∧ a ≤ 1000000) (hb : -1000000 ≤ b ∧ b ≤ 1000000) : S_apart a b = absZ (a - b) := by
  unfold S_apart absZ
  rw [wrap64 (n := a - b) (by omega) (by omega), wrap64 (n := b - a) (by omega) (by omega)]
  by_cases h : a - b < b - a
  · rw [decide_eq_true h, cond_true, if_pos (by omega)]; omega
  · rw [decide_eq_false h, cond_false, if_neg (by omega)]
theorem far_dstZ {p q : Pt} (hp : inR p) (hq : inR q) : S_far p q = dstZ p q := by
  unfold S_far dstZ maxZ
  rw [apart_absZ ⟨hp.1, hp.2.1⟩ ⟨hq.1, hq.2.1⟩, apart_absZ ⟨hp.2.2.1, hp.2.2.2⟩ ⟨hq.2.2.1, hq.2.2.2⟩]
  split
  · rename_i h; rw [decide_eq_true h]; rfl
  · rename_i h; rw [decide_eq_false h]; rfl
noncomputable def S_turnO (x0 : List Pt) (x1 : Pt) (x2 : List Int) : Option ((Bool × Unit) × Unit × Unit × List Int × Unit) := open Classical in if GoodT x0 x1 x2 then (match turnR x0 x1 x2 with | some o => some ((true, ()), ((), (), o, ())) | none => some ((false, ()), ((), (), x2, ()))) else none
theorem ok_drill_turn_ios (x0 : List Pt) (x1 : Pt) (x2 : List Int) (hok : OkA I_drill_turn_ios.args (x0, x1, x2, ())) (r) (h : S_turnO x0 x1 x2 = some r) : ∃ n, bodyE ty T_drill_turn_ios n I_drill_turn_ios (x0, x1, x2, ()) = some r := ⟨x2.length + 1, by
  rw [B_drill_turn_ios_eq, ← h]
  by_cases hg : GoodT x0 x1 x2
  case neg => unfold S_turnO at h; rw [if_neg hg] at h; cases h
  have hS : S_turnO x0 x1 x2 = (match placeT x0 x1 x2 with | some q => some ((true, ()), ((), (), turnO x2 q.1 q.2, ())) | none => some ((false, ()), ((), (), x2, ()))) := by
    unfold S_turnO turnR
    rw [if_pos hg]
    cases placeT x0 x1 x2 <;> rfl
  rw [hS]
  have db := dst_bound
  have hlen := hg.len
  have pin : ∀ j, inR (ptO x0 x2 j) := fun j => getD_inR hg.pts _
  have gd : ∀ j, j < x2.length → inB (x2.getD j 0) x0.length = true := fun j hj => by
    rw [getD_at hj]
    have := hg.at_ _ (List.getElem_mem hj)
    exact inB_int this.1 this.2
  have fp : ∀ a b, S_far (x0.getD (x2.getD a 0).toNat (0, 0, ())) (x0.getD (x2.getD b 0).toNat (0, 0, ())) = dstZ (ptO x0 x2 a) (ptO x0 x2 b) := fun a b => far_dstZ (pin a) (pin b)
  have f0 : ∀ b, S_far x1 (x0.getD (x2.getD b 0).toNat (0, 0, ())) = dstZ x1 (ptO x0 x2 b) := fun b => far_dstZ hg.p (pin b)
  unfold B_drill_turn_ios
  refine (loop_findI (fun i => ((i, ()), ())) (fun i => findK (gainO x0 x1 x2 i) (x2.length - (i + 1)) (i + 1)) (fun i k => some ((true, ()), ((), (), turnO x2 i k, ()))) (some ((false, ()), ((), (), x2, ()))) x2.length 0 (fun i _ hi rec1 => ?_) (fun rec1 => by simp only [lt_self, cond_false]) x2.length 0 (x2.length + 1) (Nat.zero_le _) (by omega) (by omega)).trans ?_
  · have i1 : wrapI .i64 (((i : Nat) : Int) + 1) = ((i + 1 : Nat) : Int) := (wrap64 (by omega) (by omega)).trans (by omega)
    by_cases hz : i = 0
    · have hbef : befO x0 x1 x2 i = x1 := by unfold befO; rw [if_pos hz]
      have z1 : decide ((0 : Int) < (i : Int)) = false := decide_eq_false (by omega)
      simp only [lt_nat hi, z1, i1, cond_true, cond_false]
      refine (loop_findK (fun k => ((k, ()), ())) (gainO x0 x1 x2 i) (fun k => some ((true, ()), ((), (), turnO x2 i k, ()))) (rec1 ((((i + 1 : Nat) : Int), ()), ())) x2.length (i + 1) (fun k hk0 hk rec2 => ?_) (fun rec2 => ?_) (x2.length - (i + 1)) (i + 1) (x2.length + 1) (Nat.le_refl _) (by omega) (by omega)).trans ?_
      rotate_left
      · simp only [lt_self, cond_false]
      · cases findK (gainO x0 x1 x2 i) (x2.length - (i + 1)) (i + 1) <;> rfl
      · have k1 : wrapI .i64 (((k : Nat) : Int) + 1) = ((k + 1 : Nat) : Int) := (wrap64 (by omega) (by omega)).trans (by omega)
        have s1 : (decide ((0 : Int) ≤ ((k + 1 : Nat) : Int)) && decide (((k + 1 : Nat) : Int) ≤ ((x2.length : Nat) : Int))) = true := by rw [decide_eq_true (show (0 : Int) ≤ ((k + 1 : Nat) : Int) by omega), decide_eq_true (show ((k + 1 : Nat) : Int) ≤ ((x2.length : Nat) : Int) by omega)]; rfl
        have s2 : (decide ((0 : Int) ≤ (i : Int)) && decide ((i : Int) ≤ ((k + 1 : Nat) : Int))) = true := by rw [decide_eq_true (show (0 : Int) ≤ (i : Int) by omega), decide_eq_true (show (i : Int) ≤ ((k + 1 : Nat) : Int) by omega)]; rfl
        have s3 : decide (((x2.drop i).take (k + 1 - i)).length ≤ 4294967296) = true := decide_eq_true (by rw [List.length_take, List.length_drop]; omega)
        have gk := gd k hk
        have gi := gd i hi
        simp only [both_self, lt_nat hk, inB_nat hk, inB_nat hi, k1, Int.toNat_natCast, cond_true, gk, gi, s1, s2, s3, Option.bind_some, fp, f0]
        unfold gainO
        rw [hbef]
        by_cases h1 : k + 1 < x2.length
        · have gk1 := gd (k + 1) h1
          simp only [lt_nat h1, inB_nat h1, gk1, cond_true, decide_eq_true h1, fp, f0]
          rw [wrap64 (n := _ + _) (by have a1 := db x1 (ptO x0 x2 k) hg.p (pin k); have a2 := db x1 (ptO x0 x2 i) hg.p (pin i); have a3 := db (ptO x0 x2 i) (ptO x0 x2 (k + 1)) (pin i) (pin (k + 1)); have a4 := db (ptO x0 x2 k) (ptO x0 x2 (k + 1)) (pin k) (pin (k + 1)); omega) (by have a1 := db x1 (ptO x0 x2 k) hg.p (pin k); have a2 := db x1 (ptO x0 x2 i) hg.p (pin i); have a3 := db (ptO x0 x2 i) (ptO x0 x2 (k + 1)) (pin i) (pin (k + 1)); have a4 := db (ptO x0 x2 k) (ptO x0 x2 (k + 1)) (pin k) (pin (k + 1)); omega), wrap64 (n := _ + _) (by have a1 := db x1 (ptO x0 x2 k) hg.p (pin k); have a2 := db x1 (ptO x0 x2 i) hg.p (pin i); have a3 := db (ptO x0 x2 i) (ptO x0 x2 (k + 1)) (pin i) (pin (k + 1)); have a4 := db (ptO x0 x2 k) (ptO x0 x2 (k + 1)) (pin k) (pin (k + 1)); omega) (by have a1 := db x1 (ptO x0 x2 k) hg.p (pin k); have a2 := db x1 (ptO x0 x2 i) hg.p (pin i); have a3 := db (ptO x0 x2 i) (ptO x0 x2 (k + 1)) (pin i) (pin (k + 1)); have a4 := db (ptO x0 x2 k) (ptO x0 x2 (k + 1)) (pin k) (pin (k + 1)); omega)]
          cases decide (dstZ x1 (ptO x0 x2 k) + dstZ (ptO x0 x2 i) (ptO x0 x2 (k + 1)) < dstZ x1 (ptO x0 x2 i) + dstZ (ptO x0 x2 k) (ptO x0 x2 (k + 1))) <;> rfl
        · have h2 : decide (((k + 1 : Nat) : Int) < ((x2.length : Nat) : Int)) = false := decide_eq_false (by omega)
          simp only [h2, decide_eq_false h1, cond_false, fp, f0]
          cases decide (dstZ x1 (ptO x0 x2 k) < dstZ x1 (ptO x0 x2 i)) <;> rfl
    · have hbef : befO x0 x1 x2 i = ptO x0 x2 (i - 1) := by unfold befO; rw [if_neg hz]
      have z1 : decide ((0 : Int) < (i : Int)) = true := decide_eq_true (by omega)
      have z2 : wrapI .i64 ((i : Int) - 1) = ((i - 1 : Nat) : Int) := (wrap64 (by omega) (by omega)).trans (by omega)
      have gp := gd (i - 1) (by omega)
      simp only [lt_nat hi, z1, z2, i1, inB_nat (show i - 1 < x2.length by omega), Int.toNat_natCast, gp, cond_true]
      refine (loop_findK (fun k => ((k, ()), ())) (gainO x0 x1 x2 i) (fun k => some ((true, ()), ((), (), turnO x2 i k, ()))) (rec1 ((((i + 1 : Nat) : Int), ()), ())) x2.length (i + 1) (fun k hk0 hk rec2 => ?_) (fun rec2 => ?_) (x2.length - (i + 1)) (i + 1) (x2.length + 1) (Nat.le_refl _) (by omega) (by omega)).trans ?_
      rotate_left
      · simp only [lt_self, cond_false]
      · cases findK (gainO x0 x1 x2 i) (x2.length - (i + 1)) (i + 1) <;> rfl
      · have k1 : wrapI .i64 (((k : Nat) : Int) + 1) = ((k + 1 : Nat) : Int) := (wrap64 (by omega) (by omega)).trans (by omega)
        have s1 : (decide ((0 : Int) ≤ ((k + 1 : Nat) : Int)) && decide (((k + 1 : Nat) : Int) ≤ ((x2.length : Nat) : Int))) = true := by rw [decide_eq_true (show (0 : Int) ≤ ((k + 1 : Nat) : Int) by omega), decide_eq_true (show ((k + 1 : Nat) : Int) ≤ ((x2.length : Nat) : Int) by omega)]; rfl
        have s2 : (decide ((0 : Int) ≤ (i : Int)) && decide ((i : Int) ≤ ((k + 1 : Nat) : Int))) = true := by rw [decide_eq_true (show (0 : Int) ≤ (i : Int) by omega), decide_eq_true (show (i : Int) ≤ ((k + 1 : Nat) : Int) by omega)]; rfl
        have s3 : decide (((x2.drop i).take (k + 1 - i)).length ≤ 4294967296) = true := decide_eq_true (by rw [List.length_take, List.length_drop]; omega)
        have gk := gd k hk
        have gi := gd i hi
        simp only [both_self, lt_nat hk, inB_nat hk, inB_nat hi, k1, Int.toNat_natCast, cond_true, gk, gi, s1, s2, s3, Option.bind_some, fp]
        unfold gainO
        rw [hbef]
        by_cases h1 : k + 1 < x2.length
        · have gk1 := gd (k + 1) h1
          simp only [lt_nat h1, inB_nat h1, gk1, cond_true, decide_eq_true h1, fp]
          rw [wrap64 (n := _ + _) (by have a1 := db (ptO x0 x2 (i - 1)) (ptO x0 x2 k) (pin (i - 1)) (pin k); have a2 := db (ptO x0 x2 (i - 1)) (ptO x0 x2 i) (pin (i - 1)) (pin i); have a3 := db (ptO x0 x2 i) (ptO x0 x2 (k + 1)) (pin i) (pin (k + 1)); have a4 := db (ptO x0 x2 k) (ptO x0 x2 (k + 1)) (pin k) (pin (k + 1)); omega) (by have a1 := db (ptO x0 x2 (i - 1)) (ptO x0 x2 k) (pin (i - 1)) (pin k); have a2 := db (ptO x0 x2 (i - 1)) (ptO x0 x2 i) (pin (i - 1)) (pin i); have a3 := db (ptO x0 x2 i) (ptO x0 x2 (k + 1)) (pin i) (pin (k + 1)); have a4 := db (ptO x0 x2 k) (ptO x0 x2 (k + 1)) (pin k) (pin (k + 1)); omega), wrap64 (n := _ + _) (by have a1 := db (ptO x0 x2 (i - 1)) (ptO x0 x2 k) (pin (i - 1)) (pin k); have a2 := db (ptO x0 x2 (i - 1)) (ptO x0 x2 i) (pin (i - 1)) (pin i); have a3 := db (ptO x0 x2 i) (ptO x0 x2 (k + 1)) (pin i) (pin (k + 1)); have a4 := db (ptO x0 x2 k) (ptO x0 x2 (k + 1)) (pin k) (pin (k + 1)); omega) (by have a1 := db (ptO x0 x2 (i - 1)) (ptO x0 x2 k) (pin (i - 1)) (pin k); have a2 := db (ptO x0 x2 (i - 1)) (ptO x0 x2 i) (pin (i - 1)) (pin i); have a3 := db (ptO x0 x2 i) (ptO x0 x2 (k + 1)) (pin i) (pin (k + 1)); have a4 := db (ptO x0 x2 k) (ptO x0 x2 (k + 1)) (pin k) (pin (k + 1)); omega)]
          cases decide (dstZ (ptO x0 x2 (i - 1)) (ptO x0 x2 k) + dstZ (ptO x0 x2 i) (ptO x0 x2 (k + 1)) < dstZ (ptO x0 x2 (i - 1)) (ptO x0 x2 i) + dstZ (ptO x0 x2 k) (ptO x0 x2 (k + 1))) <;> rfl
        · have h2 : decide (((k + 1 : Nat) : Int) < ((x2.length : Nat) : Int)) = false := decide_eq_false (by omega)
          simp only [h2, decide_eq_false h1, cond_false, fp]
          cases decide (dstZ (ptO x0 x2 (i - 1)) (ptO x0 x2 k) < dstZ (ptO x0 x2 (i - 1)) (ptO x0 x2 i)) <;> rfl
  · unfold placeT
    cases findI (fun i => findK (gainO x0 x1 x2 i) (x2.length - (i + 1)) (i + 1)) x2.length 0 <;> rfl⟩
noncomputable def E_drill_turn_ios : Entry Try.prog := Entry.of tok T_drill_turn_ios I_drill_turn_ios it_drill_turn_ios (fun (x0, x1, x2, ()) => S_turnO x0 x1 x2) (fun (x0, x1, x2, ()) r hok h => ok_drill_turn_ios x0 x1 x2 hok r h)

end Go.Proofs.Ytlibmodfpkhdpaa
namespace Go.Proofs.Ytlibmodfpkhdpaa
open Go Go.VM
/-! ### etchhouse.drill.Better -/
noncomputable def I_drill_Better : Inst := ⟨23, Try.f23, .two (.reg []) (.two (.two (.reg [(2, 0)]) (.two (.reg []) (.two (.two (.reg []) (.leaf)) (.leaf)))) (.two (.reg [(2, 1)]) (.two (.two (.reg []) (.one (.loop ⟨[(8, .pv i)], [(7, ⟨(.own .flat), (.sl i), false, false⟩)], [0, 3, 7], [3]⟩ (.two (.two (.reg [(6, 2)]) (.two (.leaf) (.leaf))) (.two (.one (.leaf)) (.reg [])))))) (.two (.reg []) (.leaf))))), (.cons (.pv (.sl (.pair i (.pair i .unit)))) (.cons (.pv (.pair i (.pair i .unit))) .nil)), (.cons (.own .flat) (.sl i) (.cons .flat i .nil))⟩
theorem it_drill_Better : InTab Try.prog I_drill_Better := ⟨Try.func23, by kernel_rfl, rfl⟩
noncomputable def T_drill_Better : Nat → Entry Try.prog := nth (Entry.no Try.f0) [E_drill_checkPoints, E_drill_greedy, E_drill_turn_ios]
noncomputable def B_drill_Better (n : Nat) (x0 : List (Int × (Int × Unit))) (x1 : (Int × (Int × Unit))) : Option (((List Int × (Int × Unit)) × (Unit × (Unit × Unit)))) :=
  (bif (!(decide ((S_chk x0 x1 200 = 0)))) then
    some (([], (S_chk x0 x1 200, ())), ((), ((), ())))
  else
    ((S_greedyP x0 x1).bind fun ((r1aa, ()), ((), ((), ()))) =>
    loopN (fun rec2 => fun
    | ((v2aa, ()), (v2ba, ())) =>
      (bif decide ((v2aa < 5000)) then
        ((S_turnO x0 x1 v2ba).bind fun ((r3aa, ()), ((), ((), (r3bbba, ())))) =>
        (bif r3aa then
          rec2 ((wrapI .i64 (v2aa + 1), ()), (r3bbba, ()))
        else
          some ((r3bbba, (0, ())), ((), ((), ())))))
      else
        some ((v2ba, (0, ())), ((), ((), ())))))
    n ((0, ()), (r1aa, ()))))
theorem B_drill_Better_eq (n : Nat) (x0 : List (Int × (Int × Unit))) (x1 : (Int × (Int × Unit))) : bodyE ty T_drill_Better n I_drill_Better (x0, (x1, ())) = B_drill_Better n x0 x1 := by kernel_rfl

end Go.Proofs.Ytlibmodfpkhdpaa
namespace Go.Proofs.Ytlibmodfpkhdpaa
open Go Go.VM
theorem isPt_inR {p : Pt} (h : S_isPt p = true) : inR p := by
  obtain ⟨a, b, _⟩ := p
  simp only [S_isPt, S_within, Bool.and_eq_true, decide_eq_true_eq] at h
  exact ⟨h.1.1, h.1.2, h.2.1, h.2.2⟩
theorem chk_inR {l : List Pt} {p : Pt} {m : Int} (h : S_chk l p m = 0) : inR p ∧ (∀ a, a ∈ l → inR a) ∧ (l.length : Int) ≤ m := by
  unfold S_chk at h
  cases hd : decide (m < (l.length : Int)) with
  | true => rw [hd] at h; cases h
  | false =>
    rw [hd, cond_false] at h
    cases hc : (S_isPt p && l.all S_isPt) with
    | false => rw [hc] at h; cases h
    | true =>
      simp only [Bool.and_eq_true, List.all_eq_true] at hc
      simp only [decide_eq_false_iff_not] at hd
      exact ⟨isPt_inR hc.1, fun a ha => isPt_inR (hc.2 a ha), by omega⟩
def S_betP (x0 : List Pt) (x1 : Pt) : List Int := bif decide (S_chk x0 x1 200 = 0) then betO x0 x1 else []
set_option maxRecDepth 100000 in
theorem ok_drill_Better (x0 : List Pt) (x1 : Pt) (hok : OkA I_drill_Better.args (x0, x1, ())) : ∃ n, bodyE ty T_drill_Better n I_drill_Better (x0, x1, ()) = some ((S_betP x0 x1, S_chk x0 x1 200, ()), ((), (), ())) := by
  obtain ⟨N, hN⟩ : ∃ N, N = maxTurns + 1 := ⟨_, rfl⟩
  refine ⟨N, ?_⟩
  rw [B_drill_Better_eq]
  unfold B_drill_Better S_betP
  cases hc : decide (S_chk x0 x1 200 = 0) with
  | false => rfl
  | true =>
    have hc := of_decide_eq_true hc
    obtain ⟨hp, hl, hn⟩ := chk_inR hc
    obtain ⟨hg, ho⟩ := grd_is hl hp (d := S_far) fun a b ha hb => far_dstZ ha hb
    have hG := ho.good hl hp (by omega)
    have g1 : S_greedyP x0 x1 = some ((grdO x0 x1, ()), ((), ((), ()))) := by
      unfold S_greedyP
      rw [decide_eq_true (show x0.length ≤ 4294967296 by omega), cond_true, hg]; rfl
    rw [g1]
    simp only [Bool.not_true, cond_false, cond_true, Option.bind_some, hc]
    obtain ⟨c, hcc⟩ : ∃ c, c = maxTurns := ⟨_, rfl⟩
    have hc5 : c = 5000 := hcc.trans (by unfold maxTurns; rfl)
    unfold betO
    rw [← hcc]
    refine loop_meas (fun x => ∃ (i : Nat) (o : List Int), i ≤ c ∧ GoodT x0 x1 o ∧ betN x0 x1 (c - i) o = betN x0 x1 c (grdO x0 x1) ∧ x = (((i : Int), ()), (o, ()))) (fun x => c - x.1.1.toNat) _ ?_ N _ ⟨0, _, Nat.zero_le _, hG, rfl, rfl⟩ (by show c - (0 : Int).toNat < _; omega)
    rintro _ ⟨i, o, h1, h2, h3, rfl⟩
    by_cases hi : i < c
    · have d1 : decide ((i : Int) < 5000) = true := decide_eq_true (by omega)
      have i1 : wrapI .i64 (((i : Nat) : Int) + 1) = ((i + 1 : Nat) : Int) := (wrap64 (by omega) (by omega)).trans (by omega)
      rw [show c - i = (c - (i + 1)) + 1 by omega, betN] at h3
      cases ht : turnR x0 x1 o with
      | none =>
        left
        intro rec
        have e : S_turnO x0 x1 o = some ((false, ()), ((), ((), (o, ())))) := by unfold S_turnO; rw [if_pos h2, ht]
        rw [ht] at h3
        simp only [d1, e, cond_true, cond_false, Option.bind_some]
        rw [← h3]
      | some o' =>
        right
        have e : S_turnO x0 x1 o = some ((true, ()), ((), ((), (o', ())))) := by unfold S_turnO; rw [if_pos h2, ht]
        rw [ht] at h3
        refine ⟨((((i + 1 : Nat) : Int), ()), (o', ())), ⟨i + 1, o', by omega, h2.perm (turnR_is ht).1, h3, rfl⟩, ?_, fun rec => ?_⟩
        · show c - (((i + 1 : Nat) : Int)).toNat < c - ((i : Int)).toNat
          rw [Int.toNat_natCast, Int.toNat_natCast]; omega
        · simp only [d1, e, i1, cond_true, Option.bind_some]
    · left
      intro rec
      obtain rfl : i = c := by omega
      have d1 : decide ((i : Int) < 5000) = false := decide_eq_false (by omega)
      rw [Nat.sub_self, betN] at h3
      simp only [d1, cond_false]
      rw [← h3]
noncomputable def E_drill_Better : Entry Try.prog := Entry.of tok T_drill_Better I_drill_Better it_drill_Better (fun (x0, x1, ()) => some ((S_betP x0 x1, S_chk x0 x1 200, ()), ((), (), ()))) (fun (x0, x1, ()) r hok h => by cases h; exact ok_drill_Better x0 x1 hok)

end Go.Proofs.Ytlibmodfpkhdpaa
namespace Go.Proofs.Ytlibmodfpkhdpaa
open Go Go.VM
/-! ### etchhouse.etchhouseref8.within -/
noncomputable def I_etchhouseref8_within : Inst := ⟨37, Try.f37, .two (.reg []) (.two (.reg []) (.leaf)), (.cons (.pv i) (.cons (.pv i) (.cons (.pv i) .nil))), (.cons .flat .bool .nil)⟩
theorem it_etchhouseref8_within : InTab Try.prog I_etchhouseref8_within := ⟨Try.func37, by kernel_rfl, rfl⟩
noncomputable def T_etchhouseref8_within : Nat → Entry Try.prog := nth (Entry.no Try.f0) []
noncomputable def B_etchhouseref8_within (x0 : Int) (x1 : Int) (x2 : Int) : Option (((Bool × Unit) × (Unit × (Unit × (Unit × Unit))))) :=
  (bif decide ((x1 ≤ x0)) then
    some ((decide ((x0 ≤ x2)), ()), ((), ((), ((), ()))))
  else
    some ((false, ()), ((), ((), ((), ())))))
theorem B_etchhouseref8_within_eq (n : Nat) (x0 : Int) (x1 : Int) (x2 : Int) : bodyE ty T_etchhouseref8_within n I_etchhouseref8_within (x0, (x1, (x2, ()))) = B_etchhouseref8_within x0 x1 x2 := by kernel_rfl

end Go.Proofs.Ytlibmodfpkhdpaa
namespace Go.Proofs.Ytlibmodfpkhdpaa
open Go Go.VM
theorem ok_etchhouseref8_within (x0 x1 x2 : Int) (hok : OkA I_etchhouseref8_within.args (x0, x1, x2, ())) : ∃ n, bodyE ty T_etchhouseref8_within n I_etchhouseref8_within (x0, x1, x2, ()) = some ((S_within x0 x1 x2, ()), ((), (), (), ())) := ⟨0, by
  rw [B_etchhouseref8_within_eq]; unfold B_etchhouseref8_within S_within; cases decide (x1 ≤ x0) <;> rfl⟩
noncomputable def E_etchhouseref8_within : Entry Try.prog := Entry.of tok T_etchhouseref8_within I_etchhouseref8_within it_etchhouseref8_within (fun (x0, x1, x2, ()) => some ((S_within x0 x1 x2, ()), ((), (), (), ()))) (fun (x0, x1, x2, ()) r hok h => by cases h; exact ok_etchhouseref8_within x0 x1 x2 hok)

end Go.Proofs.Ytlibmodfpkhdpaa
namespace Go.Proofs.Ytlibmodfpkhdpaa
open Go Go.VM
/-! ### etchhouse.etchhouseref8.isPoint -/
noncomputable def I_etchhouseref8_isPoint : Inst := ⟨48, Try.f48, .two (.reg []) (.two (.reg [(2, 0), (6, 0)]) (.leaf)), (.cons (.pv (.pair i (.pair i .unit))) .nil), (.cons .flat .bool .nil)⟩
theorem it_etchhouseref8_isPoint : InTab Try.prog I_etchhouseref8_isPoint := ⟨Try.func48, by kernel_rfl, rfl⟩
noncomputable def T_etchhouseref8_isPoint : Nat → Entry Try.prog := nth (Entry.no Try.f0) [E_etchhouseref8_within]
noncomputable def B_etchhouseref8_isPoint (x0 : (Int × (Int × Unit))) : Option (((Bool × Unit) × (Unit × Unit))) :=
  (bif S_within x0.1 (-1000000) 1000000 then
    some ((S_within x0.2.1 (-1000000) 1000000, ()), ((), ()))
  else
    some ((false, ()), ((), ())))
theorem B_etchhouseref8_isPoint_eq (n : Nat) (x0 : (Int × (Int × Unit))) : bodyE ty T_etchhouseref8_isPoint n I_etchhouseref8_isPoint (x0, ()) = B_etchhouseref8_isPoint x0 := by kernel_rfl

end Go.Proofs.Ytlibmodfpkhdpaa
namespace Go.Proofs.Ytlibmodfpkhdpaa
open Go Go.VM
def S_isPtR (p : Int × Int × Unit) : Bool := S_within p.1 (-1000000) 1000000 && S_within p.2.1 (-1000000) 1000000
theorem ok_etchhouseref8_isPoint (x0 : Int × Int × Unit) (hok : OkA I_etchhouseref8_isPoint.args (x0, ())) : ∃ n, bodyE ty T_etchhouseref8_isPoint n I_etchhouseref8_isPoint (x0, ()) = some ((S_isPtR x0, ()), ((), ())) := ⟨0, by
  rw [B_etchhouseref8_isPoint_eq]; unfold B_etchhouseref8_isPoint S_isPtR; cases S_within x0.1 (-1000000) 1000000 <;> rfl⟩
noncomputable def E_etchhouseref8_isPoint : Entry Try.prog := Entry.of tok T_etchhouseref8_isPoint I_etchhouseref8_isPoint it_etchhouseref8_isPoint (fun (x0, ()) => some ((S_isPtR x0, ()), ((), ()))) (fun (x0, ()) r hok h => by cases h; exact ok_etchhouseref8_isPoint x0 hok)

end Go.Proofs.Ytlibmodfpkhdpaa
namespace Go.Proofs.Ytlibmodfpkhdpaa
open Go Go.VM
/-! ### etchhouse.etchhouseref8.askPoints -/
noncomputable def I_etchhouseref8_askPoints : Inst := ⟨28, Try.f28, .two (.reg []) (.two (.two (.reg []) (.two (.two (.reg []) (.leaf)) (.leaf))) (.two (.two (.reg []) (.one (.loop ⟨[(18, .pv i)], [], [16, 17], [16]⟩ (.two (.reg []) (.two (.two (.leaf) (.leaf)) (.two (.one (.two (.reg []) (.two (.reg [(1, 0)]) (.two (.two (.reg []) (.leaf)) (.leaf))))) (.reg []))))))) (.two (.reg []) (.leaf)))), (.cons (.pv (.sl (.pair i (.pair i .unit)))) (.cons (.pv (.pair i (.pair i .unit))) (.cons (.pv i) .nil))), (.cons .flat i .nil)⟩
theorem it_etchhouseref8_askPoints : InTab Try.prog I_etchhouseref8_askPoints := ⟨Try.func28, by kernel_rfl, rfl⟩
noncomputable def T_etchhouseref8_askPoints : Nat → Entry Try.prog := nth (Entry.no Try.f0) [E_etchhouseref8_isPoint]
noncomputable def B_etchhouseref8_askPoints (n : Nat) (x0 : List (Int × (Int × Unit))) (x1 : (Int × (Int × Unit))) (x2 : Int) : Option (((Int × Unit) × (Unit × (Unit × (Unit × Unit))))) :=
  (bif decide ((x2 < ((x0.length : Nat) : Int))) then
    some ((2, ()), ((), ((), ((), ()))))
  else
    (bif decide (((1 + x0.length) ≤ 4294967296)) then
      loopN (fun rec1 => fun
      | ((v1aa, ()), ()) =>
        (bif decide ((v1aa < (((x1 :: x0).length : Nat) : Int))) then
          (bif inB v1aa ((x1 :: x0).length) then
            (bif (!(S_isPtR ((x1 :: x0).getD v1aa.toNat (0, (0, ()))))) then
              some ((1, ()), ((), ((), ((), ()))))
            else
              rec1 ((wrapI .i64 (v1aa + 1), ()), ()))
          else
            none)
        else
          some ((0, ()), ((), ((), ((), ()))))))
      n ((0, ()), ())
    else
      none))
theorem B_etchhouseref8_askPoints_eq (n : Nat) (x0 : List (Int × (Int × Unit))) (x1 : (Int × (Int × Unit))) (x2 : Int) : bodyE ty T_etchhouseref8_askPoints n I_etchhouseref8_askPoints (x0, (x1, (x2, ()))) = B_etchhouseref8_askPoints n x0 x1 x2 := by kernel_rfl

end Go.Proofs.Ytlibmodfpkhdpaa
namespace Go.Proofs.Ytlibmodfpkhdpaa
open Go Go.VM
def S_ask (l : List Pt) (p : Pt) (most : Int) : Int := bif decide (most < (l.length : Int)) then 2 else bif (p :: l).all S_isPtR then 0 else 1
def S_askO (x0 : List Pt) (x1 : Pt) (x2 : Int) : Option ((Int × Unit) × Unit × Unit × Unit × Unit) := bif decide (x2 ≤ 1000000) then some ((S_ask x0 x1 x2, ()), ((), (), (), ())) else none
theorem ok_etchhouseref8_askPoints (x0 : List Pt) (x1 : Pt) (x2 : Int) (hok : OkA I_etchhouseref8_askPoints.args (x0, x1, x2, ())) (r) (h : S_askO x0 x1 x2 = some r) : ∃ n, bodyE ty T_etchhouseref8_askPoints n I_etchhouseref8_askPoints (x0, x1, x2, ()) = some r := ⟨x0.length + 2, by
  obtain ⟨⟨hl, _⟩, _⟩ := hok
  have hl : x0.length ≤ maxLen := hl
  rw [B_etchhouseref8_askPoints_eq]
  unfold B_etchhouseref8_askPoints
  unfold S_askO at h
  cases hd : decide (x2 ≤ 1000000) with
  | false => rw [hd] at h; cases h
  | true =>
    rw [hd, cond_true] at h
    rw [← h]
    have hd := of_decide_eq_true hd
    unfold S_ask
    cases hc : decide (x2 < (x0.length : Int)) with
    | true => rfl
    | false =>
      simp only [decide_eq_false_iff_not] at hc
      have c1 : decide (1 + x0.length ≤ 4294967296) = true := by simp; omega
      simp only [cond_false, c1, cond_true]
      have hl2 : (x1 :: x0).length ≤ maxLen := by simp [maxLen]; omega
      refine (loop_list (l := x1 :: x0) (fun i (_ : Unit) => ((i, ()), ())) (fun a i _ => bif S_isPtR a then .inl () else .inr (some ((1, ()), ((), (), (), ())))) (fun _ => some ((0, ()), ((), (), (), ()))) (fun i h s rec => ?_) (fun s rec => ?_) (by simp) ()).trans ?_
      · simp only [lt_nat h, inB_nat h, getD_lt h, succ64 h hl2, cond_true]
        cases S_isPtR (x1 :: x0)[i] <;> rfl
      · simp only [lt_self, cond_false]
      · have : ∀ (l : List Pt) i, goL (fun a i (_ : Unit) => bif S_isPtR a then .inl () else .inr (some (((1 : Int), ()), ((), (), (), ())))) (fun _ => some (((0 : Int), ()), ((), (), (), ()))) l i () = some ((bif l.all S_isPtR then 0 else 1, ()), ((), (), (), ())) := by
          intro l
          induction l with
          | nil => intro i; rfl
          | cons a r ih =>
            intro i
            simp only [goL, List.all_cons]
            cases S_isPtR a with
            | true => simpa using ih (i + 1)
            | false => rfl
        exact this (x1 :: x0) 0⟩
noncomputable def E_etchhouseref8_askPoints : Entry Try.prog := Entry.of tok T_etchhouseref8_askPoints I_etchhouseref8_askPoints it_etchhouseref8_askPoints (fun (x0, x1, x2, ()) => S_askO x0 x1 x2) (fun (x0, x1, x2, ()) r hok h => ok_etchhouseref8_askPoints x0 x1 x2 hok r h)
theorem askO_eq (l : List Pt) (p : Pt) {m : Int} (h : m ≤ 1000000) : S_askO l p m = some ((S_ask l p m, ()), ((), (), (), ())) := by unfold S_askO; rw [decide_eq_true h]; rfl

end Go.Proofs.Ytlibmodfpkhdpaa
namespace Go.Proofs.Ytlibmodfpkhdpaa
open Go Go.VM
/-! ### etchhouse.etchhouseref8.abs -/
noncomputable def I_etchhouseref8_abs : Inst := ⟨49, Try.f49, .two (.reg []) (.two (.reg []) (.leaf)), (.cons (.pv i) .nil), (.cons .flat i .nil)⟩
theorem it_etchhouseref8_abs : InTab Try.prog I_etchhouseref8_abs := ⟨Try.func49, by kernel_rfl, rfl⟩
noncomputable def T_etchhouseref8_abs : Nat → Entry Try.prog := nth (Entry.no Try.f0) []
noncomputable def B_etchhouseref8_abs (x0 : Int) : Option (((Int × Unit) × (Unit × Unit))) :=
  some (((bif decide ((x0 < wrapI .i64 (0 - x0))) then wrapI .i64 (0 - x0) else x0), ()), ((), ()))
theorem B_etchhouseref8_abs_eq (n : Nat) (x0 : Int) : bodyE ty T_etchhouseref8_abs n I_etchhouseref8_abs (x0, ()) = B_etchhouseref8_abs x0 := by kernel_rfl

end Go.Proofs.Ytlibmodfpkhdpaa
namespace Go.Proofs.Ytlibmodfpkhdpaa
open Go Go.VM
def S_abs (a : Int) : Int := bif decide (a < wrapI .i64 (0 - a)) then wrapI .i64 (0 - a) else a
theorem ok_etchhouseref8_abs (x0 : Int) (hok : OkA I_etchhouseref8_abs.args (x0, ())) : ∃ n, bodyE ty T_etchhouseref8_abs n I_etchhouseref8_abs (x0, ()) = some ((S_abs x0, ()), ((), ())) := ⟨0, by rw [B_etchhouseref8_abs_eq]; rfl⟩
noncomputable def E_etchhouseref8_abs : Entry Try.prog := Entry.of tok T_etchhouseref8_abs I_etchhouseref8_abs it_etchhouseref8_abs (fun (x0, ()) => some ((S_abs x0, ()), ((), ()))) (fun (x0, ()) r hok h => by cases h; exact ok_etchhouseref8_abs x0 hok)

end Go.Proofs.Ytlibmodfpkhdpaa
namespace Go.Proofs.Ytlibmodfpkhdpaa
open Go Go.VM
/-! ### etchhouse.etchhouseref8.distance -/
noncomputable def I_etchhouseref8_distance : Inst := ⟨29, Try.f29, .two (.reg []) (.two (.draw [(5, 0), (11, 0)] [0, 1, 2, 3, 4, 6, 7, 8, 9, 10, 5, 11, 12, 13] [3, 2]) (.leaf)), (.cons (.pv (.pair i (.pair i .unit))) (.cons (.pv (.pair i (.pair i .unit))) .nil)), (.cons .flat i .nil)⟩
theorem it_etchhouseref8_distance : InTab Try.prog I_etchhouseref8_distance := ⟨Try.func29, by kernel_rfl, rfl⟩
noncomputable def T_etchhouseref8_distance : Nat → Entry Try.prog := nth (Entry.no Try.f0) [E_etchhouseref8_abs]
noncomputable def B_etchhouseref8_distance (x0 : (Int × (Int × Unit))) (x1 : (Int × (Int × Unit))) : Option (((Int × Unit) × (Unit × (Unit × Unit)))) :=
  some (((bif decide ((S_abs (wrapI .i64 (x0.1 - x1.1)) < S_abs (wrapI .i64 (x0.2.1 - x1.2.1)))) then S_abs (wrapI .i64 (x0.2.1 - x1.2.1)) else S_abs (wrapI .i64 (x0.1 - x1.1))), ()), ((), ((), ())))
theorem B_etchhouseref8_distance_eq (n : Nat) (x0 : (Int × (Int × Unit))) (x1 : (Int × (Int × Unit))) : bodyE ty T_etchhouseref8_distance n I_etchhouseref8_distance (x0, (x1, ())) = B_etchhouseref8_distance x0 x1 := by kernel_rfl

end Go.Proofs.Ytlibmodfpkhdpaa
namespace Go.Proofs.Ytlibmodfpkhdpaa
open Go Go.VM
def S_dist (p q : Pt) : Int := bif decide (S_abs (wrapI .i64 (p.1 - q.1)) < S_abs (wrapI .i64 (p.2.1 - q.2.1))) then S_abs (wrapI .i64 (p.2.1 - q.2.1)) else S_abs (wrapI .i64 (p.1 - q.1))
theorem ok_etchhouseref8_distance (x0 x1 : Pt) (hok : OkA I_etchhouseref8_distance.args (x0, x1, ())) : ∃ n, bodyE ty T_etchhouseref8_distance n I_etchhouseref8_distance (x0, x1, ()) = some ((S_dist x0 x1, ()), ((), (), ())) := ⟨0, by rw [B_etchhouseref8_distance_eq]; rfl⟩
noncomputable def E_etchhouseref8_distance : Entry Try.prog := Entry.of tok T_etchhouseref8_distance I_etchhouseref8_distance it_etchhouseref8_distance (fun (x0, x1, ()) => some ((S_dist x0 x1, ()), ((), (), ()))) (fun (x0, x1, ()) r hok h => by cases h; exact ok_etchhouseref8_distance x0 x1 hok)

end Go.Proofs.Ytlibmodfpkhdpaa
namespace Go.Proofs.Ytlibmodfpkhdpaa
open Go Go.VM
/-! ### etchhouse.etchhouseref8.greedy -/
noncomputable def I_etchhouseref8_greedy : Inst := ⟨31, Try.f31, .two (.reg []) (.two (.reg []) (.two (.reg []) (.two (.two (.reg []) (.one (.loop ⟨[(6, .st (.at (.rf 6 []))), (15, .pv i)], [(6, ⟨(.own .flat), (.sl i), false, false⟩), (3, ⟨.flat, (.pair i (.pair i .unit)), true, false⟩), (5, ⟨(.own .flat), (.sl .bool), false, false⟩)], [0, 3, 5, 14], []⟩ (.two (.reg []) (.two (.two (.leaf) (.leaf)) (.two (.one (.two (.reg []) (.two (.two (.reg []) (.one (.loop ⟨[(7, .pv i), (19, .pv i)], [], [0, 3, 5, 6, 14, 15, 17, 18], [3, 5, 6]⟩ (.two (.reg []) (.two (.two (.leaf) (.leaf)) (.two (.one (.two (.reg []) (.two (.draw [(11, 0), (17, 0)] [0, 1, 2, 3, 4, 5, 6, 7, 8, 9, 10, 12, 13, 14, 15, 16, 11, 17, 18, 19, 20] [9, 3, 5]) (.two (.reg []) (.leaf))))) (.reg []))))))) (.two (.reg []) (.reg []))))) (.reg []))))))) (.two (.reg []) (.leaf))))), (.cons (.pv (.sl (.pair i (.pair i .unit)))) (.cons (.pv (.pair i (.pair i .unit))) .nil)), (.cons (.own .flat) (.sl i) .nil)⟩
theorem it_etchhouseref8_greedy : InTab Try.prog I_etchhouseref8_greedy := ⟨Try.func31, by kernel_rfl, rfl⟩
noncomputable def T_etchhouseref8_greedy : Nat → Entry Try.prog := nth (Entry.no Try.f0) [E_etchhouseref8_distance]
noncomputable def B_etchhouseref8_greedy (n : Nat) (x0 : List (Int × (Int × Unit))) (x1 : (Int × (Int × Unit))) : Option (((List Int × Unit) × (Unit × (Unit × Unit)))) :=
  (bif ((decide ((0 ≤ ((x0.length : Nat) : Int))) && decide ((((x0.length : Nat) : Int) ≤ ((x0.length : Nat) : Int)))) && decide ((((x0.length : Nat) : Int) ≤ 4294967296))) then
    loopN (fun rec1 => fun
    | ((v1aa, ()), (v1ba, ((v1bbaa, (v1bbaba, ())), (v1bbba, ())))) =>
      (bif decide ((v1aa < ((x0.length : Nat) : Int))) then
        loopN (fun rec2 => fun
        | ((v2aa, (v2aba, ())), ()) =>
          (bif decide ((v2aba < ((x0.length : Nat) : Int))) then
            (bif inB v2aba x0.length then
              (bif inB v2aba v1bbba.length then
                (bif (!(v1bbba.getD v2aba.toNat false)) then
                  (bif decide ((v2aa < 0)) then
                    rec2 ((v2aba, (wrapI .i64 (v2aba + 1), ())), ())
                  else
                    (bif inB v2aa x0.length then
                      (bif decide ((S_dist (v1bbaa, (v1bbaba, ())) (x0.getD v2aba.toNat (0, (0, ()))) < S_dist (v1bbaa, (v1bbaba, ())) (x0.getD v2aa.toNat (0, (0, ()))))) then
                        rec2 ((v2aba, (wrapI .i64 (v2aba + 1), ())), ())
                      else
                        rec2 ((v2aa, (wrapI .i64 (v2aba + 1), ())), ()))
                    else
                      none))
                else
                  rec2 ((v2aa, (wrapI .i64 (v2aba + 1), ())), ()))
              else
                none)
            else
              none)
          else
            (bif inB v2aa x0.length then
              (bif inB v2aa v1bbba.length then
                (bif decide (((v1ba.length + 1) ≤ 4294967296)) then
                  rec1 ((wrapI .i64 (v1aa + 1), ()), ((v1ba ++ [v2aa]), (x0.getD v2aa.toNat (0, (0, ())), (v1bbba.set v2aa.toNat true, ()))))
                else
                  none)
              else
                none)
            else
              none)))
        n (((-1), (0, ())), ())
      else
        some ((v1ba, ()), ((), ((), ())))))
    n ((0, ()), ([], (x1, (List.replicate (α := Bool) (((x0.length : Nat) : Int).toNat) false, ()))))
  else
    none)
theorem B_etchhouseref8_greedy_eq (n : Nat) (x0 : List (Int × (Int × Unit))) (x1 : (Int × (Int × Unit))) : bodyE ty T_etchhouseref8_greedy n I_etchhouseref8_greedy (x0, (x1, ())) = B_etchhouseref8_greedy n x0 x1 := by kernel_rfl

end Go.Proofs.Ytlibmodfpkhdpaa
namespace Go.Proofs.Ytlibmodfpkhdpaa
open Go Go.VM
def S_greedyR (x0 : List Pt) (x1 : Pt) : Option ((List Int × Unit) × Unit × Unit × Unit) := bif decide (x0.length ≤ 4294967296) then (S_greedy S_dist x0 x1).map (fun o => ((o, ()), ((), (), ()))) else none
theorem ok_etchhouseref8_greedy (x0 : List Pt) (x1 : Pt) (hok : OkA I_etchhouseref8_greedy.args (x0, x1, ())) (r) (h : S_greedyR x0 x1 = some r) : ∃ n, bodyE ty T_etchhouseref8_greedy n I_etchhouseref8_greedy (x0, x1, ()) = some r := ⟨x0.length + 1, by
  obtain ⟨⟨hl, _⟩, _⟩ := hok
  rw [B_etchhouseref8_greedy_eq]
  unfold B_etchhouseref8_greedy
  unfold S_greedyR at h
  cases hd : decide (x0.length ≤ 4294967296) with
  | false => rw [hd] at h; cases h
  | true =>
    rw [hd] at h
    have hd := of_decide_eq_true hd
    have c1 : ((decide ((0 : Int) ≤ ((x0.length : Nat) : Int)) && decide ((((x0.length : Nat) : Int) ≤ ((x0.length : Nat) : Int)))) && decide ((((x0.length : Nat) : Int) ≤ 4294967296))) = true := by simp; omega
    rw [c1, cond_true, ← h, cond_true]
    refine (loop_listI (l := x0) (fun i (s : List Int × Pt × List Bool) => ((i, ()), (s.1, (s.2.1, (s.2.2, ()))))) (fun i s => s.1.length = i ∧ s.2.2.length = x0.length) (greedyB S_dist x0) (fun s => some ((s.1, ()), ((), (), ()))) (fun i h => ?_) (fun ⟨o, ⟨a, b, _⟩, u⟩ _ rec => by simp only [lt_self, cond_false]) (Nat.lt_succ_self _) (s := ([], x1, List.replicate x0.length false)) ⟨rfl, by simp⟩).trans ?_
    · rintro ⟨o, ⟨a, b, ⟨⟩⟩, u⟩ ⟨ho, hu⟩
      simp only at ho hu
      obtain ⟨p1, p2⟩ := pick_inv S_dist x0 u (a, b, ())
      refine ⟨fun s' hs => ?_, fun rec => ?_⟩
      · simp only [greedyB] at hs
        cases hb : inB (S_pick S_dist x0 u (a, b, ())) x0.length with
        | false => rw [hb] at hs; cases hs
        | true => rw [hb] at hs; cases hs; exact ⟨by simp [ho], by simp [hu]⟩
      · simp only [lt_nat h, cond_true]
        refine (loop_fold (l := x0) (fun i (s : Int) => ((s, (i, ())), ())) (fun i b => -1 ≤ b ∧ b < (i : Int)) (pickF S_dist x0 u (a, b, ())) _ (fun k hk s hI => ⟨?_, fun rec2 => ?_⟩) (fun s _ rec2 => by simp only [lt_self, cond_false]; exact rfl) (Nat.lt_succ_self _) (s := -1) (by simp)).trans ?_
        · simp only [pickF]
          cases u.getD k false with
          | true => simp only [Bool.not_true, cond_false]; omega
          | false =>
            simp only [Bool.not_false, cond_true]
            cases decide (s < 0) with
            | true => simp only [cond_true]; omega
            | false =>
              simp only [cond_false]
              cases decide (S_dist (a, b, ()) x0[k] < S_dist (a, b, ()) (x0.getD s.toNat pt0)) with
              | true => simp only [cond_true]; omega
              | false => simp only [cond_false]; omega
        · simp only [lt_nat hk, inB_nat hk, inB_nat (show k < u.length by omega), getD_at hk, succ64 hk hl, cond_true, pickF, Int.toNat_natCast]
          cases u.getD k false with
          | true => simp only [Bool.not_true, cond_false]
          | false =>
            simp only [Bool.not_false, cond_true]
            cases hs0 : decide (s < 0) with
            | true => rfl
            | false =>
              simp only [decide_eq_false_iff_not] at hs0
              simp only [cond_false, inB_int (show 0 ≤ s by omega) (show s < (x0.length : Int) by omega), cond_true]
              show (bif decide (S_dist (a, b, ()) x0[k] < S_dist (a, b, ()) (x0.getD s.toNat pt0)) then _ else _) = _
              cases decide (S_dist (a, b, ()) x0[k] < S_dist (a, b, ()) (x0.getD s.toNat pt0)) <;> rfl
        · simp only [greedyB]
          rw [hu]
          change (bif inB (S_pick S_dist x0 u (a, b, ())) x0.length then (bif inB (S_pick S_dist x0 u (a, b, ())) x0.length then _ else _) else _) = _
          cases inB (S_pick S_dist x0 u (a, b, ())) x0.length with
          | false => rfl
          | true =>
            have c3 : decide (o.length + 1 ≤ 4294967296) = true := by simp; omega
            simp only [cond_true, c3, succ64 h hl]
            rfl
    · exact greedy_map _ _ (fun o => ((o, ()), ((), (), ()))) _ _ _⟩
noncomputable def E_etchhouseref8_greedy : Entry Try.prog := Entry.of tok T_etchhouseref8_greedy I_etchhouseref8_greedy it_etchhouseref8_greedy (fun (x0, x1, ()) => S_greedyR x0 x1) (fun (x0, x1, ()) r hok h => ok_etchhouseref8_greedy x0 x1 hok r h)

end Go.Proofs.Ytlibmodfpkhdpaa
namespace Go.Proofs.Ytlibmodfpkhdpaa
open Go Go.VM
/-! ### etchhouse.etchhouseref8.length -/
noncomputable def I_etchhouseref8_length : Inst := ⟨44, Try.f44, .two (.reg []) (.two (.reg []) (.two (.two (.reg []) (.one (.loop ⟨[(7, .pv i), (12, .pv i)], [(4, ⟨.flat, (.pair i (.pair i .unit)), true, false⟩)], [0, 4, 10, 11], []⟩ (.two (.reg []) (.two (.two (.leaf) (.leaf)) (.two (.one (.two (.reg []) (.two (.draw [(6, 0)] [0, 1, 2, 3, 4, 5, 6, 7, 8] [4]) (.reg [])))) (.reg []))))))) (.two (.reg []) (.leaf)))), (.cons (.pv (.sl (.pair i (.pair i .unit)))) (.cons (.pv (.pair i (.pair i .unit))) (.cons (.pv (.sl i)) .nil))), (.cons .flat i .nil)⟩
theorem it_etchhouseref8_length : InTab Try.prog I_etchhouseref8_length := ⟨Try.func44, by kernel_rfl, rfl⟩
noncomputable def T_etchhouseref8_length : Nat → Entry Try.prog := nth (Entry.no Try.f0) [E_etchhouseref8_distance]
noncomputable def B_etchhouseref8_length (n : Nat) (x0 : List (Int × (Int × Unit))) (x1 : (Int × (Int × Unit))) (x2 : List Int) : Option (((Int × Unit) × (Unit × (Unit × (Unit × Unit))))) :=
  loopN (fun rec1 => fun
  | ((v1aa, (v1aba, ())), ((v1baa, (v1baba, ())), ())) =>
    (bif decide ((v1aba < ((x2.length : Nat) : Int))) then
      (bif inB v1aba x2.length then
        (bif inB (x2.getD v1aba.toNat (0 : Int)) x0.length then
          (bif inB (x2.getD v1aba.toNat (0 : Int)) x0.length then
            rec1 ((wrapI .i64 (v1aa + S_dist (v1baa, (v1baba, ())) (x0.getD ((x2.getD v1aba.toNat (0 : Int)).toNat) (0, (0, ())))), (wrapI .i64 (v1aba + 1), ())), (x0.getD ((x2.getD v1aba.toNat (0 : Int)).toNat) (0, (0, ())), ()))
          else
            none)
        else
          none)
      else
        none)
    else
      some ((v1aa, ()), ((), ((), ((), ()))))))
  n ((0, (0, ())), (x1, ()))
theorem B_etchhouseref8_length_eq (n : Nat) (x0 : List (Int × (Int × Unit))) (x1 : (Int × (Int × Unit))) (x2 : List Int) : bodyE ty T_etchhouseref8_length n I_etchhouseref8_length (x0, (x1, (x2, ()))) = B_etchhouseref8_length n x0 x1 x2 := by kernel_rfl

end Go.Proofs.Ytlibmodfpkhdpaa
namespace Go.Proofs.Ytlibmodfpkhdpaa
open Go Go.VM
theorem abs_absZ {a b : Int} (ha : -1000000 ≤ a ∧ a ≤ 1000000) (hb : -1000000 ≤ b ∧ b ≤ 1000000) : S_abs (wrapI .i64 (a - b)) = absZ (a - b) := by
  unfold S_abs absZ
  rw [wrap64 (n := a - b) (by omega) (by omega), wrap64 (n := 0 - (a - b)) (by omega) (by omega)]
  by_cases h : a - b < 0 - (a - b)
  · rw [decide_eq_true h, cond_true, if_pos (by omega)]; omega
  · rw [decide_eq_false h, cond_false, if_neg (by omega)]
theorem dist_dstZ {p q : Pt} (hp : inR p) (hq : inR q) : S_dist p q = dstZ p q := by
  unfold S_dist dstZ maxZ
  rw [abs_absZ ⟨hp.1, hp.2.1⟩ ⟨hq.1, hq.2.1⟩, abs_absZ ⟨hp.2.2.1, hp.2.2.2⟩ ⟨hq.2.2.1, hq.2.2.2⟩]
  split
  · rename_i h; rw [decide_eq_true h]; rfl
  · rename_i h; rw [decide_eq_false h]; rfl
noncomputable def S_lenR (x0 : List Pt) (x1 : Pt) (x2 : List Int) : Option ((Int × Unit) × Unit × Unit × Unit × Unit) := open Classical in if GoodT x0 x1 x2 then some ((lenO x0 x1 x2, ()), ((), (), (), ())) else none
theorem ok_etchhouseref8_length (x0 : List Pt) (x1 : Pt) (x2 : List Int) (hok : OkA I_etchhouseref8_length.args (x0, x1, x2, ())) (r) (h : S_lenR x0 x1 x2 = some r) : ∃ n, bodyE ty T_etchhouseref8_length n I_etchhouseref8_length (x0, x1, x2, ()) = some r := ⟨x2.length + 1, by
  rw [B_etchhouseref8_length_eq, ← h]
  by_cases hg : GoodT x0 x1 x2
  case neg => unfold S_lenR at h; rw [if_neg hg] at h; cases h
  have hS : S_lenR x0 x1 x2 = some ((lenO x0 x1 x2, ()), ((), (), (), ())) := by unfold S_lenR; rw [if_pos hg]
  rw [hS]
  have hlen := hg.len
  unfold B_etchhouseref8_length
  refine loop_meas (fun x => ∃ (i : Nat) (s : Int) (p : Pt), i ≤ x2.length ∧ inR p ∧ 0 ≤ s ∧ s ≤ 2000000 * (i : Int) ∧ s + lenP dstZ p (ptsO x0 (x2.drop i)) = lenO x0 x1 x2 ∧ x = ((s, ((i : Int), ())), (p, ()))) (fun x => x2.length - x.1.2.1.toNat) _ ?_ (x2.length + 1) _ ⟨0, 0, x1, Nat.zero_le _, hg.p, Int.le_refl _, by omega, by rw [List.drop_zero, Int.zero_add]; rfl, rfl⟩ (by show x2.length - (0 : Int).toNat < _; omega)
  rintro _ ⟨i, s, ⟨a, b, ⟨⟩⟩, h1, h2, h3, h4, h5, rfl⟩
  by_cases hi : i < x2.length
  · right
    have hk := hg.at_ _ (List.getElem_mem hi)
    have hq : inR (x0.getD x2[i].toNat pt0) := getD_inR hg.pts _
    have hd := dst_bound (a, b, ()) _ h2 hq
    have hdr : x2.drop i = x2[i] :: x2.drop (i + 1) := List.drop_eq_getElem_cons hi
    have hs : S_dist (a, b, ()) (x0.getD x2[i].toNat (0, 0, ())) = dstZ (a, b, ()) (x0.getD x2[i].toNat pt0) := dist_dstZ h2 hq
    refine ⟨((s + dstZ (a, b, ()) (x0.getD x2[i].toNat pt0), (((i + 1 : Nat) : Int), ())), (x0.getD x2[i].toNat pt0, ())), ⟨i + 1, _, _, hi, hq, by omega, by omega, ?_, rfl⟩, ?_, fun rec => ?_⟩
    · rw [hdr] at h5
      simp only [ptsO, List.map_cons, lenP] at h5
      rw [← h5, Int.add_assoc]
      rfl
    · show x2.length - (((i + 1 : Nat) : Int)).toNat < x2.length - ((i : Int)).toNat
      rw [Int.toNat_natCast, Int.toNat_natCast]; omega
    · have i1 : wrapI .i64 (((i : Nat) : Int) + 1) = ((i + 1 : Nat) : Int) := (wrap64 (by omega) (by omega)).trans (by omega)
      simp only [lt_nat hi, inB_nat hi, getD_at hi, inB_int hk.1 hk.2, i1, hs, cond_true, Int.toNat_natCast]
      rw [wrap64 (n := s + _) (by omega) (by omega)]
      rfl
  · left
    intro rec
    obtain rfl : i = x2.length := by omega
    simp only [lt_self, cond_false]
    rw [List.drop_length] at h5
    have h5 : s + 0 = lenO x0 x1 x2 := h5
    rw [← h5, Int.add_zero]⟩
noncomputable def E_etchhouseref8_length : Entry Try.prog := Entry.of tok T_etchhouseref8_length I_etchhouseref8_length it_etchhouseref8_length (fun (x0, x1, x2, ()) => S_lenR x0 x1 x2) (fun (x0, x1, x2, ()) r hok h => ok_etchhouseref8_length x0 x1 x2 hok r h)

end Go.Proofs.Ytlibmodfpkhdpaa
namespace Go.Proofs.Ytlibmodfpkhdpaa
open Go Go.VM
/-! ### slices.Clone[[]int,int] -/
noncomputable def I_slices_Clone_int_int : Inst := ⟨50, Try.f50, .two (.reg []) (.two (.two (.reg []) (.two (.two (.reg []) (.leaf)) (.leaf))) (.two (.reg []) (.leaf))), (.cons (.pv (.sl i)) .nil), (.cons (.own .flat) (.sl i) .nil)⟩
theorem it_slices_Clone_int_int : InTab Try.prog I_slices_Clone_int_int := ⟨Try.func50, by kernel_rfl, rfl⟩
noncomputable def T_slices_Clone_int_int : Nat → Entry Try.prog := nth (Entry.no Try.f0) []
noncomputable def B_slices_Clone_int_int (x0 : List Int) : Option (((List Int × Unit) × (Unit × Unit))) :=
  (bif x0.isEmpty then
    unk (fun b1 =>
      (bif b1 then
        some (([], ()), ((), ()))
      else
        (bif decide (((0 + x0.length) ≤ 4294967296)) then
          some ((x0, ()), ((), ()))
        else
          none)))
  else
    (bif decide (((0 + x0.length) ≤ 4294967296)) then
      some ((x0, ()), ((), ()))
    else
      none))
theorem B_slices_Clone_int_int_eq (n : Nat) (x0 : List Int) : bodyE ty T_slices_Clone_int_int n I_slices_Clone_int_int (x0, ()) = B_slices_Clone_int_int x0 := by kernel_rfl

end Go.Proofs.Ytlibmodfpkhdpaa
namespace Go.Proofs.Ytlibmodfpkhdpaa
open Go Go.VM
theorem ok_slices_Clone_int_int (x0 : List Int) (hok : OkA I_slices_Clone_int_int.args (x0, ())) (r) (h : (bif decide (x0.length ≤ 4294967296) then some ((x0, ()), ((), ())) else none) = some r) : ∃ n, bodyE ty T_slices_Clone_int_int n I_slices_Clone_int_int (x0, ()) = some r := ⟨0, by
  refine (B_slices_Clone_int_int_eq 0 x0).trans (Eq.trans ?_ h)
  unfold B_slices_Clone_int_int
  cases x0 with
  | nil =>
    simp only [List.isEmpty_nil, cond_true]
    unfold unk
    exact if_pos rfl
  | cons a l => rw [Nat.zero_add]; rfl⟩
noncomputable def E_slices_Clone_int_int : Entry Try.prog := Entry.of tok T_slices_Clone_int_int I_slices_Clone_int_int it_slices_Clone_int_int (fun (x0, ()) => bif decide (x0.length ≤ 4294967296) then some ((x0, ()), ((), ())) else none) (fun (x0, ()) r hok h => ok_slices_Clone_int_int x0 hok r h)

end Go.Proofs.Ytlibmodfpkhdpaa
namespace Go.Proofs.Ytlibmodfpkhdpaa
open Go Go.VM
/-! ### etchhouse.etchhouseref8.turned -/
noncomputable def I_etchhouseref8_turned : Inst := ⟨52, Try.f52, .two (.reg []) (.two (.reg [(1, 0)]) (.two (.reg [(5, 1)]) (.two (.reg []) (.leaf)))), (.cons (.pv (.sl i)) (.cons (.pv i) (.cons (.pv i) .nil))), (.cons (.own .flat) (.sl i) .nil)⟩
theorem it_etchhouseref8_turned : InTab Try.prog I_etchhouseref8_turned := ⟨Try.func52, by kernel_rfl, rfl⟩
noncomputable def T_etchhouseref8_turned : Nat → Entry Try.prog := nth (Entry.no Try.f0) [E_slices_Clone_int_int, E_slices_Reverse_int_int_ios]
noncomputable def B_etchhouseref8_turned (x0 : List Int) (x1 : Int) (x2 : Int) : Option (((List Int × Unit) × (Unit × (Unit × (Unit × Unit))))) :=
  (((bif decide ((x0.length ≤ 4294967296)) then
      some ((x0, ()), ((), ()))
    else
      none)).bind fun ((r1aa, ()), ((), ())) =>
  (bif (decide ((0 ≤ wrapI .i64 (x2 + 1))) && decide ((wrapI .i64 (x2 + 1) ≤ ((r1aa.length : Nat) : Int)))) then
    (bif (decide ((0 ≤ x1)) && decide ((x1 ≤ (((wrapI .i64 (x2 + 1)).toNat : Nat) : Int)))) then
      (((bif decide ((((r1aa.drop x1.toNat).take ((wrapI .i64 (x2 + 1)).toNat - x1.toNat)).length ≤ 4294967296)) then
          some ((), (S_rev ((r1aa.drop x1.toNat).take ((wrapI .i64 (x2 + 1)).toNat - x1.toNat)), ()))
        else
          none)).bind fun ((), (r2ba, ())) =>
      some ((splice r1aa x1.toNat r2ba, ()), ((), ((), ((), ())))))
    else
      none)
  else
    none))
theorem B_etchhouseref8_turned_eq (n : Nat) (x0 : List Int) (x1 : Int) (x2 : Int) : bodyE ty T_etchhouseref8_turned n I_etchhouseref8_turned (x0, (x1, (x2, ()))) = B_etchhouseref8_turned x0 x1 x2 := by kernel_rfl

end Go.Proofs.Ytlibmodfpkhdpaa
namespace Go.Proofs.Ytlibmodfpkhdpaa
open Go Go.VM
noncomputable def E_etchhouseref8_turned : Entry Try.prog := Entry.of tok T_etchhouseref8_turned I_etchhouseref8_turned it_etchhouseref8_turned (fun x => B_etchhouseref8_turned x.1 x.2.1 x.2.2.1) (fun (a0, a1, a2, ()) r _ h => ⟨0, (B_etchhouseref8_turned_eq 0 a0 a1 a2).trans h⟩)

end Go.Proofs.Ytlibmodfpkhdpaa
namespace Go.Proofs.Ytlibmodfpkhdpaa
open Go Go.VM
/-! ### etchhouse.etchhouseref8.shorter -/
noncomputable def I_etchhouseref8_shorter : Inst := ⟨42, Try.f42, .two (.reg []) (.two (.reg [(3, 0)]) (.two (.two (.reg []) (.one (.loop ⟨[(18, .pv i)], [], [0, 2, 4, 8, 17], [4]⟩ (.two (.reg []) (.two (.two (.leaf) (.leaf)) (.two (.one (.two (.reg []) (.two (.reg []) (.one (.loop ⟨[(10, .pv i)], [], [0, 2, 4, 8, 9, 17, 18], [4]⟩ (.two (.two (.reg []) (.two (.leaf) (.leaf))) (.two (.one (.two (.reg [(3, 1)]) (.two (.reg [(3, 0)]) (.two (.two (.reg []) (.leaf)) (.leaf))))) (.reg [])))))))) (.reg []))))))) (.two (.reg []) (.leaf)))), (.cons (.pv (.sl (.pair i (.pair i .unit)))) (.cons (.pv (.pair i (.pair i .unit))) (.cons (.pv (.sl i)) .nil))), (.cons (.own .flat) (.sl i) (.cons .flat .bool .nil))⟩
theorem it_etchhouseref8_shorter : InTab Try.prog I_etchhouseref8_shorter := ⟨Try.func42, by kernel_rfl, rfl⟩
noncomputable def T_etchhouseref8_shorter : Nat → Entry Try.prog := nth (Entry.no Try.f0) [E_etchhouseref8_length, E_etchhouseref8_turned]
noncomputable def B_etchhouseref8_shorter (n : Nat) (x0 : List (Int × (Int × Unit))) (x1 : (Int × (Int × Unit))) (x2 : List Int) : Option (((List Int × (Bool × Unit)) × (Unit × (Unit × (Unit × Unit))))) :=
  ((S_lenR x0 x1 x2).bind fun ((r1aa, ()), ((), ((), ((), ())))) =>
  loopN (fun rec2 => fun
  | ((v2aa, ()), ()) =>
    (bif decide ((v2aa < ((x2.length : Nat) : Int))) then
      loopN (fun rec3 => fun
      | ((v3aa, ()), ()) =>
        (bif decide ((v3aa < ((x2.length : Nat) : Int))) then
          ((B_etchhouseref8_turned x2 v2aa v3aa).bind fun ((r4aa, ()), ((), ((), ((), ())))) =>
          ((S_lenR x0 x1 r4aa).bind fun ((r5aa, ()), ((), ((), ((), ())))) =>
          (bif decide ((r5aa < r1aa)) then
            some ((r4aa, (true, ())), ((), ((), ((), ()))))
          else
            rec3 ((wrapI .i64 (v3aa + 1), ()), ()))))
        else
          rec2 ((wrapI .i64 (v2aa + 1), ()), ())))
      n ((wrapI .i64 (v2aa + 1), ()), ())
    else
      some (([], (false, ())), ((), ((), ((), ()))))))
  n ((0, ()), ()))
theorem B_etchhouseref8_shorter_eq (n : Nat) (x0 : List (Int × (Int × Unit))) (x1 : (Int × (Int × Unit))) (x2 : List Int) : bodyE ty T_etchhouseref8_shorter n I_etchhouseref8_shorter (x0, (x1, (x2, ()))) = B_etchhouseref8_shorter n x0 x1 x2 := by kernel_rfl

end Go.Proofs.Ytlibmodfpkhdpaa
namespace Go.Proofs.Ytlibmodfpkhdpaa
open Go Go.VM
noncomputable def S_shoO (x0 : List Pt) (x1 : Pt) (x2 : List Int) : Option ((List Int × (Bool × Unit)) × Unit × Unit × Unit × Unit) := open Classical in if GoodT x0 x1 x2 then (match turnR x0 x1 x2 with | some o => some ((o, true, ()), ((), (), (), ())) | none => some (([], false, ()), ((), (), (), ()))) else none
theorem turned_is {x0 : List Int} {i k : Nat} (hi : i < k) (hk : k < x0.length) (hn : x0.length ≤ 200) : B_etchhouseref8_turned x0 (i : Int) (k : Int) = some ((turnO x0 i k, ()), ((), ((), ((), ())))) := by
  have k1 : wrapI .i64 (((k : Nat) : Int) + 1) = ((k + 1 : Nat) : Int) := (wrap64 (by omega) (by omega)).trans (by omega)
  unfold B_etchhouseref8_turned
  rw [decide_eq_true (show x0.length ≤ 4294967296 by omega)]
  simp only [cond_true, Option.bind_some, k1, Int.toNat_natCast]
  rw [decide_eq_true (show (0 : Int) ≤ ((k + 1 : Nat) : Int) by omega), decide_eq_true (show ((k + 1 : Nat) : Int) ≤ ((x0.length : Nat) : Int) by omega), decide_eq_true (show (0 : Int) ≤ (i : Int) by omega), decide_eq_true (show (i : Int) ≤ ((k + 1 : Nat) : Int) by omega), decide_eq_true (show ((x0.drop i).take (k + 1 - i)).length ≤ 4294967296 by rw [List.length_take, List.length_drop]; omega)]
  rfl
theorem ok_etchhouseref8_shorter (x0 : List Pt) (x1 : Pt) (x2 : List Int) (hok : OkA I_etchhouseref8_shorter.args (x0, x1, x2, ())) (r) (h : S_shoO x0 x1 x2 = some r) : ∃ n, bodyE ty T_etchhouseref8_shorter n I_etchhouseref8_shorter (x0, x1, x2, ()) = some r := ⟨x2.length + 1, by
  rw [B_etchhouseref8_shorter_eq, ← h]
  by_cases hg : GoodT x0 x1 x2
  case neg => unfold S_shoO at h; rw [if_neg hg] at h; cases h
  have hS : S_shoO x0 x1 x2 = (match placeT x0 x1 x2 with | some q => some ((turnO x2 q.1 q.2, true, ()), ((), (), (), ())) | none => some (([], false, ()), ((), (), (), ()))) := by
    unfold S_shoO turnR
    rw [if_pos hg]
    cases placeT x0 x1 x2 <;> rfl
  rw [hS]
  have hlen := hg.len
  have hL : ∀ o, GoodT x0 x1 o → S_lenR x0 x1 o = some ((lenO x0 x1 o, ()), ((), ((), ((), ())))) := fun o ho => by unfold S_lenR; rw [if_pos ho]
  unfold B_etchhouseref8_shorter
  rw [hL x2 hg]
  simp only [Option.bind_some]
  refine (loop_findI (fun i => ((i, ()), ())) (fun i => findK (gainO x0 x1 x2 i) (x2.length - (i + 1)) (i + 1)) (fun i k => some ((turnO x2 i k, true, ()), ((), (), (), ()))) (some (([], false, ()), ((), (), (), ()))) x2.length 0 (fun i _ hi rec1 => ?_) (fun rec1 => by simp only [lt_self, cond_false]) x2.length 0 (x2.length + 1) (Nat.zero_le _) (by omega) (by omega)).trans ?_
  · have i1 : wrapI .i64 (((i : Nat) : Int) + 1) = ((i + 1 : Nat) : Int) := (wrap64 (by omega) (by omega)).trans (by omega)
    simp only [lt_nat hi, i1, cond_true]
    refine (loop_findK (fun k => ((k, ()), ())) (gainO x0 x1 x2 i) (fun k => some ((turnO x2 i k, true, ()), ((), (), (), ()))) (rec1 ((((i + 1 : Nat) : Int), ()), ())) x2.length (i + 1) (fun k hk0 hk rec2 => ?_) (fun rec2 => by simp only [lt_self, cond_false]) (x2.length - (i + 1)) (i + 1) (x2.length + 1) (Nat.le_refl _) (by omega) (by omega)).trans ?_
    · have k1 : wrapI .i64 (((k : Nat) : Int) + 1) = ((k + 1 : Nat) : Int) := (wrap64 (by omega) (by omega)).trans (by omega)
      simp only [lt_nat hk, k1, cond_true, turned_is (show i < k by omega) hk hlen, hL _ (hg.perm turnO_perm), Option.bind_some, gain_is (show i < k by omega) hk]
    · cases findK (gainO x0 x1 x2 i) (x2.length - (i + 1)) (i + 1) <;> rfl
  · unfold placeT
    cases findI (fun i => findK (gainO x0 x1 x2 i) (x2.length - (i + 1)) (i + 1)) x2.length 0 <;> rfl⟩
noncomputable def E_etchhouseref8_shorter : Entry Try.prog := Entry.of tok T_etchhouseref8_shorter I_etchhouseref8_shorter it_etchhouseref8_shorter (fun (x0, x1, x2, ()) => S_shoO x0 x1 x2) (fun (x0, x1, x2, ()) r hok h => ok_etchhouseref8_shorter x0 x1 x2 hok r h)

end Go.Proofs.Ytlibmodfpkhdpaa
namespace Go.Proofs.Ytlibmodfpkhdpaa
open Go Go.VM
/-! ### etchhouse.etchhouseref8.Better -/
noncomputable def I_etchhouseref8_Better : Inst := ⟨24, Try.f24, .two (.reg []) (.two (.two (.reg [(2, 0)]) (.two (.reg []) (.two (.two (.reg []) (.leaf)) (.leaf)))) (.two (.reg [(2, 1)]) (.two (.two (.reg []) (.one (.loop ⟨[(7, .st (.at (.rf 7 []))), (19, .pv i)], [(7, ⟨(.own .flat), (.sl i), false, false⟩)], [0, 3], [3]⟩ (.two (.reg []) (.two (.two (.leaf) (.leaf)) (.two (.one (.two (.reg [(3, 2)]) (.two (.two (.reg []) (.two (.leaf) (.leaf))) (.reg [])))) (.reg []))))))) (.two (.reg []) (.leaf))))), (.cons (.pv (.sl (.pair i (.pair i .unit)))) (.cons (.pv (.pair i (.pair i .unit))) .nil)), (.cons (.own .flat) (.sl i) (.cons .flat i .nil))⟩
theorem it_etchhouseref8_Better : InTab Try.prog I_etchhouseref8_Better := ⟨Try.func24, by kernel_rfl, rfl⟩
noncomputable def T_etchhouseref8_Better : Nat → Entry Try.prog := nth (Entry.no Try.f0) [E_etchhouseref8_askPoints, E_etchhouseref8_greedy, E_etchhouseref8_shorter]
noncomputable def B_etchhouseref8_Better (n : Nat) (x0 : List (Int × (Int × Unit))) (x1 : (Int × (Int × Unit))) : Option (((List Int × (Int × Unit)) × (Unit × (Unit × Unit)))) :=
  ((S_askO x0 x1 200).bind fun ((r1aa, ()), ((), ((), ((), ())))) =>
  (bif (!(decide ((r1aa = 0)))) then
    some (([], (r1aa, ())), ((), ((), ())))
  else
    ((S_greedyR x0 x1).bind fun ((r2aa, ()), ((), ((), ()))) =>
    loopN (fun rec3 => fun
    | ((v3aa, ()), (v3ba, ())) =>
      (bif decide ((v3aa < 5000)) then
        ((S_shoO x0 x1 v3ba).bind fun ((r4aa, (r4aba, ())), ((), ((), ((), ())))) =>
        (bif (!r4aba) then
          some ((v3ba, (0, ())), ((), ((), ())))
        else
          rec3 ((wrapI .i64 (v3aa + 1), ()), (r4aa, ()))))
      else
        some ((v3ba, (0, ())), ((), ((), ())))))
    n ((0, ()), (r2aa, ())))))
theorem B_etchhouseref8_Better_eq (n : Nat) (x0 : List (Int × (Int × Unit))) (x1 : (Int × (Int × Unit))) : bodyE ty T_etchhouseref8_Better n I_etchhouseref8_Better (x0, (x1, ())) = B_etchhouseref8_Better n x0 x1 := by kernel_rfl

end Go.Proofs.Ytlibmodfpkhdpaa
namespace Go.Proofs.Ytlibmodfpkhdpaa
open Go Go.VM
theorem ask_inR {l : List Pt} {p : Pt} {m : Int} (h : S_ask l p m = 0) : inR p ∧ (∀ a, a ∈ l → inR a) ∧ (l.length : Int) ≤ m := by
  have hP : ∀ {p : Pt}, S_isPtR p = true → inR p := fun {p} h => by
    obtain ⟨a, b, _⟩ := p
    simp only [S_isPtR, S_within, Bool.and_eq_true, decide_eq_true_eq] at h
    exact ⟨h.1.1, h.1.2, h.2.1, h.2.2⟩
  unfold S_ask at h
  cases hd : decide (m < (l.length : Int)) with
  | true => rw [hd] at h; cases h
  | false =>
    rw [hd, cond_false] at h
    cases hc : ((p :: l).all S_isPtR) with
    | false => rw [hc] at h; cases h
    | true =>
      simp only [List.all_eq_true] at hc
      simp only [decide_eq_false_iff_not] at hd
      exact ⟨hP (hc p List.mem_cons_self), fun a ha => hP (hc a (List.mem_cons_of_mem _ ha)), by omega⟩
def S_betR (x0 : List Pt) (x1 : Pt) : List Int := bif decide (S_ask x0 x1 200 = 0) then betO x0 x1 else []
set_option maxRecDepth 100000 in
theorem ok_etchhouseref8_Better (x0 : List Pt) (x1 : Pt) (hok : OkA I_etchhouseref8_Better.args (x0, x1, ())) : ∃ n, bodyE ty T_etchhouseref8_Better n I_etchhouseref8_Better (x0, x1, ()) = some ((S_betR x0 x1, S_ask x0 x1 200, ()), ((), (), ())) := by
  obtain ⟨N, hN⟩ : ∃ N, N = maxTurns + 1 := ⟨_, rfl⟩
  refine ⟨N, ?_⟩
  rw [B_etchhouseref8_Better_eq]
  unfold B_etchhouseref8_Better S_betR
  have hask : S_askO x0 x1 200 = some ((S_ask x0 x1 200, ()), ((), ((), ((), ())))) := askO_eq x0 x1 (by omega)
  rw [hask]
  simp only [Option.bind_some]
  cases hc : decide (S_ask x0 x1 200 = 0) with
  | false => rfl
  | true =>
    have hc := of_decide_eq_true hc
    obtain ⟨hp, hl, hn⟩ := ask_inR hc
    obtain ⟨hg, ho⟩ := grd_is hl hp (d := S_dist) fun a b ha hb => dist_dstZ ha hb
    have hG := ho.good hl hp (by omega)
    have g1 : S_greedyR x0 x1 = some ((grdO x0 x1, ()), ((), ((), ()))) := by
      unfold S_greedyR
      rw [decide_eq_true (show x0.length ≤ 4294967296 by omega), cond_true, hg]; rfl
    rw [g1]
    simp only [Bool.not_true, cond_false, cond_true, Option.bind_some, hc]
    obtain ⟨c, hcc⟩ : ∃ c, c = maxTurns := ⟨_, rfl⟩
    have hc5 : c = 5000 := hcc.trans (by unfold maxTurns; rfl)
    unfold betO
    rw [← hcc]
    refine loop_meas (fun x => ∃ (i : Nat) (o : List Int), i ≤ c ∧ GoodT x0 x1 o ∧ betN x0 x1 (c - i) o = betN x0 x1 c (grdO x0 x1) ∧ x = (((i : Int), ()), (o, ()))) (fun x => c - x.1.1.toNat) _ ?_ N _ ⟨0, _, Nat.zero_le _, hG, rfl, rfl⟩ (by show c - (0 : Int).toNat < _; omega)
    rintro _ ⟨i, o, h1, h2, h3, rfl⟩
    by_cases hi : i < c
    · have d1 : decide ((i : Int) < 5000) = true := decide_eq_true (by omega)
      have i1 : wrapI .i64 (((i : Nat) : Int) + 1) = ((i + 1 : Nat) : Int) := (wrap64 (by omega) (by omega)).trans (by omega)
      rw [show c - i = (c - (i + 1)) + 1 by omega, betN] at h3
      cases ht : turnR x0 x1 o with
      | none =>
        left
        intro rec
        have e : S_shoO x0 x1 o = some (([], (false, ())), ((), ((), ((), ())))) := by unfold S_shoO; rw [if_pos h2, ht]
        rw [ht] at h3
        simp only [d1, e, cond_true, cond_false, Option.bind_some, Bool.not_false]
        rw [← h3]
      | some o' =>
        right
        have e : S_shoO x0 x1 o = some ((o', (true, ())), ((), ((), ((), ())))) := by unfold S_shoO; rw [if_pos h2, ht]
        rw [ht] at h3
        refine ⟨((((i + 1 : Nat) : Int), ()), (o', ())), ⟨i + 1, o', by omega, h2.perm (turnR_is ht).1, h3, rfl⟩, ?_, fun rec => ?_⟩
        · show c - (((i + 1 : Nat) : Int)).toNat < c - ((i : Int)).toNat
          rw [Int.toNat_natCast, Int.toNat_natCast]; omega
        · simp only [d1, e, i1, cond_true, Option.bind_some, Bool.not_true, cond_false]
    · left
      intro rec
      obtain rfl : i = c := by omega
      have d1 : decide ((i : Int) < 5000) = false := decide_eq_false (by omega)
      rw [Nat.sub_self, betN] at h3
      simp only [d1, cond_false]
      rw [← h3]
noncomputable def E_etchhouseref8_Better : Entry Try.prog := Entry.of tok T_etchhouseref8_Better I_etchhouseref8_Better it_etchhouseref8_Better (fun (x0, x1, ()) => some ((S_betR x0 x1, S_ask x0 x1 200, ()), ((), (), ()))) (fun (x0, x1, ()) r hok h => by cases h; exact ok_etchhouseref8_Better x0 x1 hok)

end Go.Proofs.Ytlibmodfpkhdpaa
namespace Go.Proofs.Ytlibmodfpkhdpaa
open Go Go.VM
/-! ### slices.Equal[[]int,int] -/
noncomputable def I_slices_Equal_int_int : Inst := ⟨13, Try.f13, .two (.reg []) (.two (.two (.reg []) (.two (.two (.reg []) (.leaf)) (.leaf))) (.two (.two (.reg []) (.one (.loop ⟨[(13, .pv i)], [], [0, 1, 12], []⟩ (.two (.reg []) (.two (.two (.leaf) (.leaf)) (.two (.one (.two (.reg []) (.two (.draw [] [0, 1, 2, 3, 4, 5, 6, 7, 8] []) (.two (.two (.reg []) (.leaf)) (.leaf))))) (.reg []))))))) (.two (.reg []) (.leaf)))), (.cons (.pv (.sl i)) (.cons (.pv (.sl i)) .nil)), (.cons .flat .bool .nil)⟩
theorem it_slices_Equal_int_int : InTab Try.prog I_slices_Equal_int_int := ⟨Try.func13, by kernel_rfl, rfl⟩
noncomputable def T_slices_Equal_int_int : Nat → Entry Try.prog := nth (Entry.no Try.f0) []
noncomputable def B_slices_Equal_int_int (n : Nat) (x0 : List Int) (x1 : List Int) : Option (((Bool × Unit) × (Unit × (Unit × Unit)))) :=
  (bif (!(decide ((((x0.length : Nat) : Int) = ((x1.length : Nat) : Int))))) then
    some ((false, ()), ((), ((), ())))
  else
    loopN (fun rec1 => fun
    | ((v1aa, ()), ()) =>
      (bif decide ((v1aa < ((x0.length : Nat) : Int))) then
        (bif inB v1aa x0.length then
          (bif inB v1aa x1.length then
            (bif (!(decide ((x0.getD v1aa.toNat (0 : Int) = x1.getD v1aa.toNat (0 : Int))))) then
              some ((false, ()), ((), ((), ())))
            else
              rec1 ((wrapI .i64 (v1aa + 1), ()), ()))
          else
            none)
        else
          none)
      else
        some ((true, ()), ((), ((), ())))))
    n ((0, ()), ()))
theorem B_slices_Equal_int_int_eq (n : Nat) (x0 : List Int) (x1 : List Int) : bodyE ty T_slices_Equal_int_int n I_slices_Equal_int_int (x0, (x1, ())) = B_slices_Equal_int_int n x0 x1 := by kernel_rfl

end Go.Proofs.Ytlibmodfpkhdpaa
namespace Go.Proofs.Ytlibmodfpkhdpaa
open Go Go.VM
theorem eqL : ∀ (d i : Nat) (a b : List Int), i + d = a.length → a.length = b.length → ∀ n, d < n → a.length ≤ maxLen →
    loopN (fun rec2 => fun
    | ((v2aa, ()), ()) =>
      (bif decide ((v2aa < ((a.length : Nat) : Int))) then
        (bif inB v2aa a.length then
          (bif inB v2aa b.length then
            (bif (!(decide ((a.getD v2aa.toNat 0 = b.getD v2aa.toNat 0)))) then
              some ((false, ()), ((), (), ()))
            else
              rec2 ((wrapI .i64 (v2aa + 1), ()), ()))
          else
            none)
        else
          none)
      else
        some ((true, ()), ((), (), ())))) n ((((i : Nat) : Int), ()), ()) = some ((decide (a.drop i = b.drop i), ()), ((), (), ())) := by
  intro d
  induction d with
  | zero =>
    intro i a b hi hab n hn hl
    obtain ⟨m, rfl⟩ : ∃ m, n = m + 1 := ⟨n - 1, by omega⟩
    obtain rfl : i = a.length := by omega
    rw [loopN_succ]
    simp only [lt_self, cond_false]
    rw [List.drop_length, hab, List.drop_length]
    simp
  | succ d ih =>
    intro i a b hi hab n hn hl
    obtain ⟨m, rfl⟩ : ∃ m, n = m + 1 := ⟨n - 1, by omega⟩
    have h : i < a.length := by omega
    have h2 : i < b.length := by omega
    rw [loopN_succ]
    simp only [lt_nat h, inB_nat h, inB_nat h2, getD_lt h, getD_lt h2, succ64 h hl, cond_true]
    rw [ih (i + 1) a b (by omega) hab m (by omega) hl, List.drop_eq_getElem_cons h, List.drop_eq_getElem_cons h2]
    by_cases e : a[i] = b[i]
    · have : decide (a[i] = b[i]) = true := decide_eq_true e
      rw [this, Bool.not_true, cond_false]
      have : decide (a[i] :: List.drop (i + 1) a = b[i] :: List.drop (i + 1) b) = decide (List.drop (i + 1) a = List.drop (i + 1) b) := by simp only [e, List.cons.injEq, true_and]
      rw [this]
    · have : decide (a[i] = b[i]) = false := decide_eq_false e
      rw [this, Bool.not_false, cond_true]
      have : decide (a[i] :: List.drop (i + 1) a = b[i] :: List.drop (i + 1) b) = false := decide_eq_false fun c => e (List.cons.inj c).1
      rw [this]
theorem ok_slices_Equal_int_int (x0 x1 : List Int) (hok : OkA I_slices_Equal_int_int.args (x0, x1, ())) : ∃ n, bodyE ty T_slices_Equal_int_int n I_slices_Equal_int_int (x0, x1, ()) = some ((decide (x0 = x1), ()), ((), (), ())) := ⟨x0.length + 1, by
  obtain ⟨⟨hl, _⟩, _⟩ := hok
  rw [B_slices_Equal_int_int_eq]
  unfold B_slices_Equal_int_int
  by_cases e : x0.length = x1.length
  · have : decide (((x0.length : Nat) : Int) = ((x1.length : Nat) : Int)) = true := by simp [e]
    simp only [this, Bool.not_true, cond_false]
    exact eqL x0.length 0 x0 x1 (by omega) e _ (Nat.lt_succ_self _) hl
  · have : decide (((x0.length : Nat) : Int) = ((x1.length : Nat) : Int)) = false := by simp; omega
    simp only [this, Bool.not_false, cond_true]
    have : decide (x0 = x1) = false := by simp; intro c; exact e (by rw [c])
    rw [this]⟩
noncomputable def E_slices_Equal_int_int : Entry Try.prog := Entry.of tok T_slices_Equal_int_int I_slices_Equal_int_int it_slices_Equal_int_int (fun (x0, x1, ()) => some ((decide (x0 = x1), ()), ((), (), ()))) (fun (x0, x1, ()) r hok h => by cases h; exact ok_slices_Equal_int_int x0 x1 hok)

end Go.Proofs.Ytlibmodfpkhdpaa
namespace Go.Proofs.Ytlibmodfpkhdpaa
open Go Go.VM
/-! ### etchhouse.drill.way -/
noncomputable def I_drill_way : Inst := ⟨27, Try.f27, .two (.reg []) (.two (.reg []) (.two (.two (.reg []) (.one (.loop ⟨[(5, .pv i), (10, .pv i)], [(3, ⟨.flat, (.pair i (.pair i .unit)), true, false⟩)], [3, 8, 9], []⟩ (.two (.reg []) (.two (.two (.leaf) (.leaf)) (.two (.one (.two (.reg []) (.two (.reg [(3, 0)]) (.reg [])))) (.reg []))))))) (.two (.reg []) (.leaf)))), (.cons (.pv (.sl (.pair i (.pair i .unit)))) (.cons (.pv (.pair i (.pair i .unit))) .nil)), (.cons .flat i .nil)⟩
theorem it_drill_way : InTab Try.prog I_drill_way := ⟨Try.func27, by kernel_rfl, rfl⟩
noncomputable def T_drill_way : Nat → Entry Try.prog := nth (Entry.no Try.f0) [E_drill_far]
noncomputable def B_drill_way (n : Nat) (x0 : List (Int × (Int × Unit))) (x1 : (Int × (Int × Unit))) : Option (((Int × Unit) × (Unit × (Unit × Unit)))) :=
  loopN (fun rec1 => fun
  | ((v1aa, (v1aba, ())), ((v1baa, (v1baba, ())), ())) =>
    (bif decide ((v1aba < ((x0.length : Nat) : Int))) then
      (bif inB v1aba x0.length then
        rec1 ((wrapI .i64 (v1aa + S_far (v1baa, (v1baba, ())) (x0.getD v1aba.toNat (0, (0, ())))), (wrapI .i64 (v1aba + 1), ())), (x0.getD v1aba.toNat (0, (0, ())), ()))
      else
        none)
    else
      some ((v1aa, ()), ((), ((), ())))))
  n ((0, (0, ())), (x1, ()))
theorem B_drill_way_eq (n : Nat) (x0 : List (Int × (Int × Unit))) (x1 : (Int × (Int × Unit))) : bodyE ty T_drill_way n I_drill_way (x0, (x1, ())) = B_drill_way n x0 x1 := by kernel_rfl

end Go.Proofs.Ytlibmodfpkhdpaa
namespace Go.Proofs.Ytlibmodfpkhdpaa
open Go Go.VM
theorem ok_drill_way (x0 : List Pt) (x1 : Pt) (hok : OkA I_drill_way.args (x0, x1, ())) : ∃ n, bodyE ty T_drill_way n I_drill_way (x0, x1, ()) = some ((S_way S_far x0 x1, ()), ((), (), ())) := ⟨x0.length + 1, by
  obtain ⟨⟨hl, _⟩, _⟩ := hok
  rw [B_drill_way_eq]
  unfold B_drill_way
  refine (loop_fold (l := x0) (fun i (s : Int × Pt) => ((s.1, (i, ())), (s.2, ()))) (fun _ _ => True) (wayF S_far) (fun s => some ((s.1, ()), ((), (), ()))) (fun i h s _ => ?_) (fun s _ rec => ?_) (Nat.lt_succ_self _) (s := (0, x1)) trivial)
  · obtain ⟨s, a, b, ⟨⟩⟩ := s
    exact ⟨trivial, fun rec => by simp only [lt_nat h, inB_nat h, getD_lt h, succ64 h hl, cond_true]; rfl⟩
  · obtain ⟨s, a, b, ⟨⟩⟩ := s
    simp only [lt_self, cond_false]⟩
noncomputable def E_drill_way : Entry Try.prog := Entry.of tok T_drill_way I_drill_way it_drill_way (fun (x0, x1, ()) => some ((S_way S_far x0 x1, ()), ((), (), ()))) (fun (x0, x1, ()) r hok h => by cases h; exact ok_drill_way x0 x1 hok)

end Go.Proofs.Ytlibmodfpkhdpaa
namespace Go.Proofs.Ytlibmodfpkhdpaa
open Go Go.VM
/-! ### etchhouse.drill.Way -/
noncomputable def I_drill_Way : Inst := ⟨9, Try.f9, .two (.reg []) (.two (.two (.reg [(2, 0)]) (.two (.reg []) (.two (.two (.reg []) (.leaf)) (.leaf)))) (.two (.reg [(2, 1)]) (.leaf))), (.cons (.pv (.sl (.pair i (.pair i .unit)))) (.cons (.pv (.pair i (.pair i .unit))) .nil)), (.cons .flat i (.cons .flat i .nil))⟩
theorem it_drill_Way : InTab Try.prog I_drill_Way := ⟨Try.func9, by kernel_rfl, rfl⟩
noncomputable def T_drill_Way : Nat → Entry Try.prog := nth (Entry.no Try.f0) [E_drill_checkPoints, E_drill_way]
noncomputable def B_drill_Way (x0 : List (Int × (Int × Unit))) (x1 : (Int × (Int × Unit))) : Option (((Int × (Int × Unit)) × (Unit × (Unit × Unit)))) :=
  (bif (!(decide ((S_chk x0 x1 2000 = 0)))) then
    some ((0, (S_chk x0 x1 2000, ())), ((), ((), ())))
  else
    some ((S_way S_far x0 x1, (0, ())), ((), ((), ()))))
theorem B_drill_Way_eq (n : Nat) (x0 : List (Int × (Int × Unit))) (x1 : (Int × (Int × Unit))) : bodyE ty T_drill_Way n I_drill_Way (x0, (x1, ())) = B_drill_Way x0 x1 := by kernel_rfl

end Go.Proofs.Ytlibmodfpkhdpaa
namespace Go.Proofs.Ytlibmodfpkhdpaa
open Go Go.VM
def S_WayP (x0 : List Pt) (x1 : Pt) : Int × Int := bif decide (S_chk x0 x1 2000 = 0) then (S_way S_far x0 x1, 0) else (0, S_chk x0 x1 2000)
theorem ok_drill_Way (x0 : List Pt) (x1 : Pt) (hok : OkA I_drill_Way.args (x0, x1, ())) : ∃ n, bodyE ty T_drill_Way n I_drill_Way (x0, x1, ()) = some (((S_WayP x0 x1).1, (S_WayP x0 x1).2, ()), ((), (), ())) := ⟨0, by
  rw [B_drill_Way_eq]
  unfold B_drill_Way S_WayP
  cases decide (S_chk x0 x1 2000 = 0) <;> rfl⟩
noncomputable def E_drill_Way : Entry Try.prog := Entry.of tok T_drill_Way I_drill_Way it_drill_Way (fun (x0, x1, ()) => some (((S_WayP x0 x1).1, (S_WayP x0 x1).2, ()), ((), (), ()))) (fun (x0, x1, ()) r hok h => by cases h; exact ok_drill_Way x0 x1 hok)

end Go.Proofs.Ytlibmodfpkhdpaa
namespace Go.Proofs.Ytlibmodfpkhdpaa
open Go Go.VM
/-! ### etchhouse.etchhouselaw8.awake -/
noncomputable def I_etchhouselaw8_awake : Inst := ⟨14, Try.f14, .two (.reg []) (.two (.reg [(5, 0)]) (.two (.reg []) (.leaf))), .nil, (.cons .flat .bool .nil)⟩
theorem it_etchhouselaw8_awake : InTab Try.prog I_etchhouselaw8_awake := ⟨Try.func14, by kernel_rfl, rfl⟩
noncomputable def T_etchhouselaw8_awake : Nat → Entry Try.prog := nth (Entry.no Try.f0) [E_drill_Way]
noncomputable def B_etchhouselaw8_awake  : Option (((Bool × Unit) × Unit)) :=
  some ((true, ()), ())
theorem B_etchhouselaw8_awake_eq (n : Nat)  : bodyE ty T_etchhouselaw8_awake n I_etchhouselaw8_awake () = B_etchhouselaw8_awake  := by kernel_rfl

end Go.Proofs.Ytlibmodfpkhdpaa
namespace Go.Proofs.Ytlibmodfpkhdpaa
open Go Go.VM
def S_etchhouselaw8_awake  : Bool := true
theorem ok_etchhouselaw8_awake  (hok : OkA I_etchhouselaw8_awake.args ()) : ∃ n, bodyE ty T_etchhouselaw8_awake n I_etchhouselaw8_awake () = some ((S_etchhouselaw8_awake, ()), ()) := ⟨0, by rw [B_etchhouselaw8_awake_eq]; rfl⟩
noncomputable def E_etchhouselaw8_awake : Entry Try.prog := Entry.of tok T_etchhouselaw8_awake I_etchhouselaw8_awake it_etchhouselaw8_awake (fun () => some ((S_etchhouselaw8_awake, ()), ())) (fun () r hok h => by cases h; exact ok_etchhouselaw8_awake  hok)

end Go.Proofs.Ytlibmodfpkhdpaa
namespace Go.Proofs.Ytlibmodfpkhdpaa
open Go Go.VM
/-! ### etchhouse.etchhouselaw8.DrillBetterMatchesSpec -/
noncomputable def I_etchhouselaw8_DrillBetterMatchesSpec : Inst := ⟨7, Try.f7, .two (.reg []) (.two (.reg [(2, 0)]) (.two (.reg [(2, 1)]) (.two (.reg [(6, 2), (9, 3)]) (.leaf)))), (.cons (.pv (.sl (.pair i (.pair i .unit)))) (.cons (.pv (.pair i (.pair i .unit))) .nil)), (.cons .flat .bool .nil)⟩
theorem it_etchhouselaw8_DrillBetterMatchesSpec : InTab Try.prog I_etchhouselaw8_DrillBetterMatchesSpec := ⟨Try.func7, by kernel_rfl, rfl⟩
noncomputable def T_etchhouselaw8_DrillBetterMatchesSpec : Nat → Entry Try.prog := nth (Entry.no Try.f0) [E_drill_Better, E_etchhouseref8_Better, E_slices_Equal_int_int, E_etchhouselaw8_awake]
noncomputable def B_etchhouselaw8_DrillBetterMatchesSpec (x0 : List (Int × (Int × Unit))) (x1 : (Int × (Int × Unit))) : Option (((Bool × Unit) × (Unit × (Unit × Unit)))) :=
  (bif decide ((S_chk x0 x1 200 = S_ask x0 x1 200)) then
    (bif decide ((S_betP x0 x1 = S_betR x0 x1)) then
      some ((S_etchhouselaw8_awake, ()), ((), ((), ())))
    else
      some ((false, ()), ((), ((), ()))))
  else
    some ((false, ()), ((), ((), ()))))
theorem B_etchhouselaw8_DrillBetterMatchesSpec_eq (n : Nat) (x0 : List (Int × (Int × Unit))) (x1 : (Int × (Int × Unit))) : bodyE ty T_etchhouselaw8_DrillBetterMatchesSpec n I_etchhouselaw8_DrillBetterMatchesSpec (x0, (x1, ())) = B_etchhouselaw8_DrillBetterMatchesSpec x0 x1 := by kernel_rfl

end Go.Proofs.Ytlibmodfpkhdpaa
namespace Go.Proofs.Ytlibmodfpkhdpaa
open Go Go.VM
noncomputable def E_etchhouselaw8_DrillBetterMatchesSpec : Entry Try.prog := Entry.of tok T_etchhouselaw8_DrillBetterMatchesSpec I_etchhouselaw8_DrillBetterMatchesSpec it_etchhouselaw8_DrillBetterMatchesSpec (fun x => B_etchhouselaw8_DrillBetterMatchesSpec x.1 x.2.1) (fun (a0, a1, ()) r _ h => ⟨0, (B_etchhouselaw8_DrillBetterMatchesSpec_eq 0 a0 a1).trans h⟩)

end Go.Proofs.Ytlibmodfpkhdpaa
namespace Go.Proofs.Ytlibmodfpkhdpaa
open Go Go.VM
namespace LDrillBetterMatchesSpec
theorem law (x0 : List Pt) (x1 : Pt) : B_etchhouselaw8_DrillBetterMatchesSpec x0 x1 = some ((true, ()), ((), ((), ()))) := by
  have e1 : S_ask x0 x1 200 = S_chk x0 x1 200 := rfl
  have e2 : S_betR x0 x1 = S_betP x0 x1 := by unfold S_betR S_betP; rw [e1]
  unfold B_etchhouselaw8_DrillBetterMatchesSpec
  rw [e1, e2, decide_eq_true rfl, decide_eq_true rfl]
  rfl

end LDrillBetterMatchesSpec
end Go.Proofs.Ytlibmodfpkhdpaa
