/- What the functions that DrillOrdersAreOrders reaches compute, part 1; and that the law answers true, for all arguments that a row reads. -/
import Derived.Test.YtlibmodfpkhdpaaProg
import Derived.Test.YtlibmodfpkhdpaaVmDrillOrdersAreOrders5
namespace Go.Proofs.Ytlibmodfpkhdpaa
open Go Go.VM
abbrev i : Ty := .int .i64
def tab : List (Nat × Ty) := [(22, (.sl (.pair i (.pair i .unit)))), (24, (.pair i (.pair i .unit))), (3, i), (4, .bool), (28, (.sl i)), (25, i), (62, (.sl .bool)), (60, (.sl (.sl i))), (64, (.pair (.sl (.pair i (.pair i .unit))) (.pair (.sl .bool) (.pair (.sl i) (.pair (.sl i) (.pair i .unit))))))]
def ty : Types := mkTypes tab []
theorem tok : TyOK Try.prog ty := tyok_of_check (by kernel_rfl)
end Go.Proofs.Ytlibmodfpkhdpaa
namespace Go.Proofs.Ytlibmodfpkhdpaa
open Go Go.VM
/-! ### etchhouse.shape.within -/
noncomputable def I_shape_within : Inst := ⟨55, Try.f55, .two (.reg []) (.two (.reg []) (.leaf)), (.cons (.pv i) (.cons (.pv i) (.cons (.pv i) .nil))), (.cons .flat .bool .nil)⟩
theorem it_shape_within : InTab Try.prog I_shape_within := ⟨Try.func55, by kernel_rfl, rfl⟩
noncomputable def T_shape_within : Nat → Entry Try.prog := nth (Entry.no Try.f0) []
noncomputable def B_shape_within (x0 : Int) (x1 : Int) (x2 : Int) : Option (((Bool × Unit) × (Unit × (Unit × (Unit × Unit))))) :=
  (bif decide ((x1 ≤ x0)) then
    some ((decide ((x0 ≤ x2)), ()), ((), ((), ((), ()))))
  else
    some ((false, ()), ((), ((), ((), ())))))
theorem B_shape_within_eq (n : Nat) (x0 : Int) (x1 : Int) (x2 : Int) : bodyE ty T_shape_within n I_shape_within (x0, (x1, (x2, ()))) = B_shape_within x0 x1 x2 := by kernel_rfl

end Go.Proofs.Ytlibmodfpkhdpaa
namespace Go.Proofs.Ytlibmodfpkhdpaa
open Go Go.VM
theorem ok_shape_within (x0 x1 x2 : Int) (hok : OkA I_shape_within.args (x0, x1, x2, ())) : ∃ n, bodyE ty T_shape_within n I_shape_within (x0, x1, x2, ()) = some ((S_within x0 x1 x2, ()), ((), (), (), ())) := ⟨0, by
  rw [B_shape_within_eq]; unfold B_shape_within S_within; cases decide (x1 ≤ x0) <;> rfl⟩
noncomputable def E_shape_within : Entry Try.prog := Entry.of tok T_shape_within I_shape_within it_shape_within (fun (x0, x1, x2, ()) => some ((S_within x0 x1 x2, ()), ((), (), (), ()))) (fun (x0, x1, x2, ()) r hok h => by cases h; exact ok_shape_within x0 x1 x2 hok)

end Go.Proofs.Ytlibmodfpkhdpaa
namespace Go.Proofs.Ytlibmodfpkhdpaa
open Go Go.VM
/-! ### etchhouse.shape.IsAt -/
noncomputable def I_shape_IsAt : Inst := ⟨53, Try.f53, .two (.reg []) (.two (.reg [(1, 0)]) (.leaf)), (.cons (.pv i) .nil), (.cons .flat .bool .nil)⟩
theorem it_shape_IsAt : InTab Try.prog I_shape_IsAt := ⟨Try.func53, by kernel_rfl, rfl⟩
noncomputable def T_shape_IsAt : Nat → Entry Try.prog := nth (Entry.no Try.f0) [E_shape_within]
noncomputable def B_shape_IsAt (x0 : Int) : Option (((Bool × Unit) × (Unit × Unit))) :=
  some ((S_within x0 (-1000000) 1000000, ()), ((), ()))
theorem B_shape_IsAt_eq (n : Nat) (x0 : Int) : bodyE ty T_shape_IsAt n I_shape_IsAt (x0, ()) = B_shape_IsAt x0 := by kernel_rfl

end Go.Proofs.Ytlibmodfpkhdpaa
namespace Go.Proofs.Ytlibmodfpkhdpaa
open Go Go.VM
theorem ok_shape_IsAt (x0 : Int) (hok : OkA I_shape_IsAt.args (x0, ())) : ∃ n, bodyE ty T_shape_IsAt n I_shape_IsAt (x0, ()) = some ((S_within x0 (-1000000) 1000000, ()), ((), ())) := ⟨0, by rw [B_shape_IsAt_eq]; rfl⟩
noncomputable def E_shape_IsAt : Entry Try.prog := Entry.of tok T_shape_IsAt I_shape_IsAt it_shape_IsAt (fun (x0, ()) => some ((S_within x0 (-1000000) 1000000, ()), ((), ()))) (fun (x0, ()) r hok h => by cases h; exact ok_shape_IsAt x0 hok)

end Go.Proofs.Ytlibmodfpkhdpaa
namespace Go.Proofs.Ytlibmodfpkhdpaa
open Go Go.VM
/-! ### etchhouse.shape.IsPoint -/
noncomputable def I_shape_IsPoint : Inst := ⟨45, Try.f45, .two (.reg []) (.two (.reg [(2, 0), (6, 0)]) (.leaf)), (.cons (.pv (.pair i (.pair i .unit))) .nil), (.cons .flat .bool .nil)⟩
theorem it_shape_IsPoint : InTab Try.prog I_shape_IsPoint := ⟨Try.func45, by kernel_rfl, rfl⟩
noncomputable def T_shape_IsPoint : Nat → Entry Try.prog := nth (Entry.no Try.f0) [E_shape_IsAt]
noncomputable def B_shape_IsPoint (x0 : (Int × (Int × Unit))) : Option (((Bool × Unit) × (Unit × Unit))) :=
  (bif S_within x0.1 (-1000000) 1000000 then
    some ((S_within x0.2.1 (-1000000) 1000000, ()), ((), ()))
  else
    some ((false, ()), ((), ())))
theorem B_shape_IsPoint_eq (n : Nat) (x0 : (Int × (Int × Unit))) : bodyE ty T_shape_IsPoint n I_shape_IsPoint (x0, ()) = B_shape_IsPoint x0 := by kernel_rfl

end Go.Proofs.Ytlibmodfpkhdpaa
namespace Go.Proofs.Ytlibmodfpkhdpaa
open Go Go.VM
def S_isPt (p : Int × Int × Unit) : Bool := S_within p.1 (-1000000) 1000000 && S_within p.2.1 (-1000000) 1000000
theorem ok_shape_IsPoint (x0 : Int × Int × Unit) (hok : OkA I_shape_IsPoint.args (x0, ())) : ∃ n, bodyE ty T_shape_IsPoint n I_shape_IsPoint (x0, ()) = some ((S_isPt x0, ()), ((), ())) := ⟨0, by
  rw [B_shape_IsPoint_eq]; unfold B_shape_IsPoint S_isPt; cases S_within x0.1 (-1000000) 1000000 <;> rfl⟩
noncomputable def E_shape_IsPoint : Entry Try.prog := Entry.of tok T_shape_IsPoint I_shape_IsPoint it_shape_IsPoint (fun (x0, ()) => some ((S_isPt x0, ()), ((), ()))) (fun (x0, ()) r hok h => by cases h; exact ok_shape_IsPoint x0 hok)

end Go.Proofs.Ytlibmodfpkhdpaa
namespace Go.Proofs.Ytlibmodfpkhdpaa
open Go Go.VM
/-! ### etchhouse.drill.checkPoints$1 -/
noncomputable def I_drill_checkPoints_1 : Inst := ⟨47, Try.f47, .two (.reg []) (.two (.reg [(1, 0)]) (.leaf)), (.cons (.pv (.pair i (.pair i .unit))) .nil), (.cons .flat .bool .nil)⟩
theorem it_drill_checkPoints_1 : InTab Try.prog I_drill_checkPoints_1 := ⟨Try.func47, by kernel_rfl, rfl⟩
noncomputable def T_drill_checkPoints_1 : Nat → Entry Try.prog := nth (Entry.no Try.f0) [E_shape_IsPoint]
noncomputable def B_drill_checkPoints_1 (x0 : (Int × (Int × Unit))) : Option (((Bool × Unit) × (Unit × Unit))) :=
  some (((!(S_isPt x0)), ()), ((), ()))
theorem B_drill_checkPoints_1_eq (n : Nat) (x0 : (Int × (Int × Unit))) : bodyE ty T_drill_checkPoints_1 n I_drill_checkPoints_1 (x0, ()) = B_drill_checkPoints_1 x0 := by kernel_rfl

end Go.Proofs.Ytlibmodfpkhdpaa
namespace Go.Proofs.Ytlibmodfpkhdpaa
open Go Go.VM
theorem ok_drill_checkPoints_1 (x0 : Int × Int × Unit) (hok : OkA I_drill_checkPoints_1.args (x0, ())) : ∃ n, bodyE ty T_drill_checkPoints_1 n I_drill_checkPoints_1 (x0, ()) = some ((!S_isPt x0, ()), ((), ())) := ⟨0, by rw [B_drill_checkPoints_1_eq]; rfl⟩
noncomputable def E_drill_checkPoints_1 : Entry Try.prog := Entry.of tok T_drill_checkPoints_1 I_drill_checkPoints_1 it_drill_checkPoints_1 (fun (x0, ()) => some ((!S_isPt x0, ()), ((), ()))) (fun (x0, ()) r hok h => by cases h; exact ok_drill_checkPoints_1 x0 hok)

end Go.Proofs.Ytlibmodfpkhdpaa
namespace Go.Proofs.Ytlibmodfpkhdpaa
open Go Go.VM
/-! ### slices.IndexFunc[[]etchhouse.api.Point,etchhouse.api.Point] -/
noncomputable def I_slices_IndexFunc_etchhouse_api_Point_etchhouse_api_Point_of_drill_checkPoints_1 : Inst := ⟨54, Try.f54, .two (.reg []) (.two (.two (.reg []) (.one (.loop ⟨[(8, .pv i)], [], [0, 1, 7], []⟩ (.two (.reg []) (.two (.two (.leaf) (.leaf)) (.two (.one (.two (.reg []) (.two (.reg [(5, 0)]) (.two (.two (.reg []) (.leaf)) (.leaf))))) (.reg []))))))) (.two (.reg []) (.leaf))), (.cons (.pv (.sl (.pair i (.pair i .unit)))) (.cons (.fn 47 .nil) .nil)), (.cons .flat i .nil)⟩
theorem it_slices_IndexFunc_etchhouse_api_Point_etchhouse_api_Point_of_drill_checkPoints_1 : InTab Try.prog I_slices_IndexFunc_etchhouse_api_Point_etchhouse_api_Point_of_drill_checkPoints_1 := ⟨Try.func54, by kernel_rfl, rfl⟩
noncomputable def T_slices_IndexFunc_etchhouse_api_Point_etchhouse_api_Point_of_drill_checkPoints_1 : Nat → Entry Try.prog := nth (Entry.no Try.f0) [E_drill_checkPoints_1]
noncomputable def B_slices_IndexFunc_etchhouse_api_Point_etchhouse_api_Point_of_drill_checkPoints_1 (n : Nat) (x0 : List (Int × (Int × Unit))) (x1 : Unit) : Option (((Int × Unit) × (Unit × (Unit × Unit)))) :=
  loopN (fun rec1 => fun
  | ((v1aa, ()), ()) =>
    (bif decide ((v1aa < ((x0.length : Nat) : Int))) then
      (bif inB v1aa x0.length then
        (bif (!(S_isPt (x0.getD v1aa.toNat (0, (0, ()))))) then
          some ((v1aa, ()), ((), ((), ())))
        else
          rec1 ((wrapI .i64 (v1aa + 1), ()), ()))
      else
        none)
    else
      some (((-1), ()), ((), ((), ())))))
  n ((0, ()), ())
theorem B_slices_IndexFunc_etchhouse_api_Point_etchhouse_api_Point_of_drill_checkPoints_1_eq (n : Nat) (x0 : List (Int × (Int × Unit))) (x1 : Unit) : bodyE ty T_slices_IndexFunc_etchhouse_api_Point_etchhouse_api_Point_of_drill_checkPoints_1 n I_slices_IndexFunc_etchhouse_api_Point_etchhouse_api_Point_of_drill_checkPoints_1 (x0, (x1, ())) = B_slices_IndexFunc_etchhouse_api_Point_etchhouse_api_Point_of_drill_checkPoints_1 n x0 x1 := by kernel_rfl

end Go.Proofs.Ytlibmodfpkhdpaa
namespace Go.Proofs.Ytlibmodfpkhdpaa
open Go Go.VM
def S_idxPt : List (Int × Int × Unit) → Nat → Int
  | [], _ => -1
  | a :: r, i => bif S_isPt a then S_idxPt r (i + 1) else (i : Int)
theorem idxPt_neg : ∀ (l : List (Int × Int × Unit)) (i : Nat), decide (0 ≤ S_idxPt l i) = !l.all S_isPt
  | [], i => by simp [S_idxPt]
  | a :: r, i => by
    have ih := idxPt_neg r (i + 1)
    by_cases h : S_isPt a = true
    · have : S_idxPt (a :: r) i = S_idxPt r (i + 1) := by simp only [S_idxPt, h, cond_true]
      rw [this, ih]; simp [h]
    · have h : S_isPt a = false := by simpa using h
      have : S_idxPt (a :: r) i = i := by simp only [S_idxPt, h, cond_false]
      rw [this]; simp [h]
theorem ok_slices_IndexFunc_etchhouse_api_Point_etchhouse_api_Point_of_drill_checkPoints_1 (x0 : List (Int × Int × Unit)) (hok : OkA I_slices_IndexFunc_etchhouse_api_Point_etchhouse_api_Point_of_drill_checkPoints_1.args (x0, (), ())) : ∃ n, bodyE ty T_slices_IndexFunc_etchhouse_api_Point_etchhouse_api_Point_of_drill_checkPoints_1 n I_slices_IndexFunc_etchhouse_api_Point_etchhouse_api_Point_of_drill_checkPoints_1 (x0, (), ()) = some ((S_idxPt x0 0, ()), ((), (), ())) := ⟨x0.length + 1, by
  obtain ⟨⟨hl, _⟩, _⟩ := hok
  rw [B_slices_IndexFunc_etchhouse_api_Point_etchhouse_api_Point_of_drill_checkPoints_1_eq]
  unfold B_slices_IndexFunc_etchhouse_api_Point_etchhouse_api_Point_of_drill_checkPoints_1
  refine (loop_list (l := x0) (fun i (_ : Unit) => ((i, ()), ())) (fun a i _ => bif S_isPt a then .inl () else .inr (some (((i : Int), ()), ((), (), ())))) (fun _ => some ((-1, ()), ((), (), ()))) (fun i h s rec => ?_) (fun s rec => ?_) (Nat.lt_succ_self _) ()).trans ?_
  · simp only [lt_nat h, inB_nat h, getD_lt h, succ64 h hl, cond_true]
    cases S_isPt x0[i] <;> rfl
  · simp only [lt_self, cond_false]
  · have : ∀ (l : List (Int × Int × Unit)) i, goL (fun a i (_ : Unit) => bif S_isPt a then .inl () else .inr (some (((i : Int), ()), ((), (), ())))) (fun _ => some ((-1, ()), ((), (), ()))) l i () = some ((S_idxPt l i, ()), ((), (), ())) := by
      intro l
      induction l with
      | nil => intro i; rfl
      | cons a r ih =>
        intro i
        simp only [goL, S_idxPt]
        cases S_isPt a with
        | true => simpa using ih (i + 1)
        | false => rfl
    exact this x0 0⟩
noncomputable def E_slices_IndexFunc_etchhouse_api_Point_etchhouse_api_Point_of_drill_checkPoints_1 : Entry Try.prog := Entry.of tok T_slices_IndexFunc_etchhouse_api_Point_etchhouse_api_Point_of_drill_checkPoints_1 I_slices_IndexFunc_etchhouse_api_Point_etchhouse_api_Point_of_drill_checkPoints_1 it_slices_IndexFunc_etchhouse_api_Point_etchhouse_api_Point_of_drill_checkPoints_1 (fun (x0, (), ()) => some ((S_idxPt x0 0, ()), ((), (), ()))) (fun (x0, (), ()) r hok h => by cases h; exact ok_slices_IndexFunc_etchhouse_api_Point_etchhouse_api_Point_of_drill_checkPoints_1 x0 hok)

end Go.Proofs.Ytlibmodfpkhdpaa
namespace Go.Proofs.Ytlibmodfpkhdpaa
open Go Go.VM
/-! ### slices.ContainsFunc[[]etchhouse.api.Point,etchhouse.api.Point] -/
noncomputable def I_slices_ContainsFunc_etchhouse_api_Point_etchhouse_api_Point_of_drill_checkPoints_1 : Inst := ⟨46, Try.f46, .two (.reg []) (.two (.reg [(2, 0)]) (.leaf)), (.cons (.pv (.sl (.pair i (.pair i .unit)))) (.cons (.fn 47 .nil) .nil)), (.cons .flat .bool .nil)⟩
theorem it_slices_ContainsFunc_etchhouse_api_Point_etchhouse_api_Point_of_drill_checkPoints_1 : InTab Try.prog I_slices_ContainsFunc_etchhouse_api_Point_etchhouse_api_Point_of_drill_checkPoints_1 := ⟨Try.func46, by kernel_rfl, rfl⟩
noncomputable def T_slices_ContainsFunc_etchhouse_api_Point_etchhouse_api_Point_of_drill_checkPoints_1 : Nat → Entry Try.prog := nth (Entry.no Try.f0) [E_slices_IndexFunc_etchhouse_api_Point_etchhouse_api_Point_of_drill_checkPoints_1]
noncomputable def B_slices_ContainsFunc_etchhouse_api_Point_etchhouse_api_Point_of_drill_checkPoints_1 (x0 : List (Int × (Int × Unit))) (x1 : Unit) : Option (((Bool × Unit) × (Unit × (Unit × Unit)))) :=
  some ((decide ((0 ≤ S_idxPt x0 0)), ()), ((), ((), ())))
theorem B_slices_ContainsFunc_etchhouse_api_Point_etchhouse_api_Point_of_drill_checkPoints_1_eq (n : Nat) (x0 : List (Int × (Int × Unit))) (x1 : Unit) : bodyE ty T_slices_ContainsFunc_etchhouse_api_Point_etchhouse_api_Point_of_drill_checkPoints_1 n I_slices_ContainsFunc_etchhouse_api_Point_etchhouse_api_Point_of_drill_checkPoints_1 (x0, (x1, ())) = B_slices_ContainsFunc_etchhouse_api_Point_etchhouse_api_Point_of_drill_checkPoints_1 x0 x1 := by kernel_rfl

end Go.Proofs.Ytlibmodfpkhdpaa
namespace Go.Proofs.Ytlibmodfpkhdpaa
open Go Go.VM
noncomputable def E_slices_ContainsFunc_etchhouse_api_Point_etchhouse_api_Point_of_drill_checkPoints_1 : Entry Try.prog := Entry.of tok T_slices_ContainsFunc_etchhouse_api_Point_etchhouse_api_Point_of_drill_checkPoints_1 I_slices_ContainsFunc_etchhouse_api_Point_etchhouse_api_Point_of_drill_checkPoints_1 it_slices_ContainsFunc_etchhouse_api_Point_etchhouse_api_Point_of_drill_checkPoints_1 (fun x => B_slices_ContainsFunc_etchhouse_api_Point_etchhouse_api_Point_of_drill_checkPoints_1 x.1 x.2.1) (fun (a0, a1, ()) r _ h => ⟨0, (B_slices_ContainsFunc_etchhouse_api_Point_etchhouse_api_Point_of_drill_checkPoints_1_eq 0 a0 a1).trans h⟩)

end Go.Proofs.Ytlibmodfpkhdpaa
namespace Go.Proofs.Ytlibmodfpkhdpaa
open Go Go.VM
/-! ### etchhouse.drill.checkPoints -/
noncomputable def I_drill_checkPoints : Inst := ⟨26, Try.f26, .two (.reg []) (.two (.two (.reg []) (.two (.two (.reg []) (.leaf)) (.leaf))) (.two (.two (.reg [(1, 0), (5, 1)]) (.two (.two (.reg []) (.leaf)) (.leaf))) (.two (.reg []) (.leaf)))), (.cons (.pv (.sl (.pair i (.pair i .unit)))) (.cons (.pv (.pair i (.pair i .unit))) (.cons (.pv i) .nil))), (.cons .flat i .nil)⟩
theorem it_drill_checkPoints : InTab Try.prog I_drill_checkPoints := ⟨Try.func26, by kernel_rfl, rfl⟩
noncomputable def T_drill_checkPoints : Nat → Entry Try.prog := nth (Entry.no Try.f0) [E_shape_IsPoint, E_slices_ContainsFunc_etchhouse_api_Point_etchhouse_api_Point_of_drill_checkPoints_1]
noncomputable def B_drill_checkPoints (x0 : List (Int × (Int × Unit))) (x1 : (Int × (Int × Unit))) (x2 : Int) : Option (((Int × Unit) × (Unit × (Unit × (Unit × Unit))))) :=
  (bif decide ((x2 < ((x0.length : Nat) : Int))) then
    some ((2, ()), ((), ((), ((), ()))))
  else
    (bif (!(S_isPt x1)) then
      some ((1, ()), ((), ((), ((), ()))))
    else
      ((B_slices_ContainsFunc_etchhouse_api_Point_etchhouse_api_Point_of_drill_checkPoints_1 x0 ()).bind fun ((r1aa, ()), ((), ((), ()))) =>
      (bif r1aa then
        some ((1, ()), ((), ((), ((), ()))))
      else
        some ((0, ()), ((), ((), ((), ()))))))))
theorem B_drill_checkPoints_eq (n : Nat) (x0 : List (Int × (Int × Unit))) (x1 : (Int × (Int × Unit))) (x2 : Int) : bodyE ty T_drill_checkPoints n I_drill_checkPoints (x0, (x1, (x2, ()))) = B_drill_checkPoints x0 x1 x2 := by kernel_rfl

end Go.Proofs.Ytlibmodfpkhdpaa
namespace Go.Proofs.Ytlibmodfpkhdpaa
open Go Go.VM
def S_chk (l : List Pt) (p : Pt) (most : Int) : Int := bif decide (most < (l.length : Int)) then 2 else bif S_isPt p && l.all S_isPt then 0 else 1
theorem ok_drill_checkPoints (x0 : List Pt) (x1 : Pt) (x2 : Int) (hok : OkA I_drill_checkPoints.args (x0, x1, x2, ())) : ∃ n, bodyE ty T_drill_checkPoints n I_drill_checkPoints (x0, x1, x2, ()) = some ((S_chk x0 x1 x2, ()), ((), (), (), ())) := ⟨0, by
  rw [B_drill_checkPoints_eq]
  unfold B_drill_checkPoints S_chk
  cases decide (x2 < (x0.length : Int)) with
  | true => rfl
  | false =>
    cases S_isPt x1 with
    | false => rfl
    | true =>
      have : B_slices_ContainsFunc_etchhouse_api_Point_etchhouse_api_Point_of_drill_checkPoints_1 x0 () = some ((!x0.all S_isPt, ()), ((), ((), ()))) := by
        unfold B_slices_ContainsFunc_etchhouse_api_Point_etchhouse_api_Point_of_drill_checkPoints_1
        rw [idxPt_neg]
      simp only [cond_false, Bool.not_true, this, Option.bind_some, Bool.true_and]
      cases x0.all S_isPt <;> rfl⟩
noncomputable def E_drill_checkPoints : Entry Try.prog := Entry.of tok T_drill_checkPoints I_drill_checkPoints it_drill_checkPoints (fun (x0, x1, x2, ()) => some ((S_chk x0 x1 x2, ()), ((), (), (), ()))) (fun (x0, x1, x2, ()) r hok h => by cases h; exact ok_drill_checkPoints x0 x1 x2 hok)

end Go.Proofs.Ytlibmodfpkhdpaa
namespace Go.Proofs.Ytlibmodfpkhdpaa
open Go Go.VM
/-! ### etchhouse.drill.apart -/
noncomputable def I_drill_apart : Inst := ⟨34, Try.f34, .two (.reg []) (.two (.reg []) (.leaf)), (.cons (.pv i) (.cons (.pv i) .nil)), (.cons .flat i .nil)⟩
theorem it_drill_apart : InTab Try.prog I_drill_apart := ⟨Try.func34, by kernel_rfl, rfl⟩
noncomputable def T_drill_apart : Nat → Entry Try.prog := nth (Entry.no Try.f0) []
noncomputable def B_drill_apart (x0 : Int) (x1 : Int) : Option (((Int × Unit) × (Unit × (Unit × Unit)))) :=
  some (((bif decide ((wrapI .i64 (x0 - x1) < wrapI .i64 (x1 - x0))) then wrapI .i64 (x1 - x0) else wrapI .i64 (x0 - x1)), ()), ((), ((), ())))
theorem B_drill_apart_eq (n : Nat) (x0 : Int) (x1 : Int) : bodyE ty T_drill_apart n I_drill_apart (x0, (x1, ())) = B_drill_apart x0 x1 := by kernel_rfl

end Go.Proofs.Ytlibmodfpkhdpaa
namespace Go.Proofs.Ytlibmodfpkhdpaa
open Go Go.VM
def S_apart (a b : Int) : Int := bif decide (wrapI .i64 (a - b) < wrapI .i64 (b - a)) then wrapI .i64 (b - a) else wrapI .i64 (a - b)
theorem ok_drill_apart (x0 x1 : Int) (hok : OkA I_drill_apart.args (x0, x1, ())) : ∃ n, bodyE ty T_drill_apart n I_drill_apart (x0, x1, ()) = some ((S_apart x0 x1, ()), ((), (), ())) := ⟨0, by rw [B_drill_apart_eq]; rfl⟩
noncomputable def E_drill_apart : Entry Try.prog := Entry.of tok T_drill_apart I_drill_apart it_drill_apart (fun (x0, x1, ()) => some ((S_apart x0 x1, ()), ((), (), ()))) (fun (x0, x1, ()) r hok h => by cases h; exact ok_drill_apart x0 x1 hok)

end Go.Proofs.Ytlibmodfpkhdpaa
namespace Go.Proofs.Ytlibmodfpkhdpaa
open Go Go.VM
/-! ### etchhouse.drill.far -/
noncomputable def I_drill_far : Inst := ⟨39, Try.f39, .two (.reg []) (.two (.draw [(4, 0), (9, 0)] [0, 1, 2, 3, 5, 6, 7, 8, 4, 9, 10, 11] [3, 2]) (.leaf)), (.cons (.pv (.pair i (.pair i .unit))) (.cons (.pv (.pair i (.pair i .unit))) .nil)), (.cons .flat i .nil)⟩
theorem it_drill_far : InTab Try.prog I_drill_far := ⟨Try.func39, by kernel_rfl, rfl⟩
noncomputable def T_drill_far : Nat → Entry Try.prog := nth (Entry.no Try.f0) [E_drill_apart]
noncomputable def B_drill_far (x0 : (Int × (Int × Unit))) (x1 : (Int × (Int × Unit))) : Option (((Int × Unit) × (Unit × (Unit × Unit)))) :=
  some (((bif decide ((S_apart x0.1 x1.1 < S_apart x0.2.1 x1.2.1)) then S_apart x0.2.1 x1.2.1 else S_apart x0.1 x1.1), ()), ((), ((), ())))
theorem B_drill_far_eq (n : Nat) (x0 : (Int × (Int × Unit))) (x1 : (Int × (Int × Unit))) : bodyE ty T_drill_far n I_drill_far (x0, (x1, ())) = B_drill_far x0 x1 := by kernel_rfl

end Go.Proofs.Ytlibmodfpkhdpaa
namespace Go.Proofs.Ytlibmodfpkhdpaa
open Go Go.VM
def S_far (p q : Pt) : Int := bif decide (S_apart p.1 q.1 < S_apart p.2.1 q.2.1) then S_apart p.2.1 q.2.1 else S_apart p.1 q.1
theorem ok_drill_far (x0 x1 : Pt) (hok : OkA I_drill_far.args (x0, x1, ())) : ∃ n, bodyE ty T_drill_far n I_drill_far (x0, x1, ()) = some ((S_far x0 x1, ()), ((), (), ())) := ⟨0, by rw [B_drill_far_eq]; rfl⟩
noncomputable def E_drill_far : Entry Try.prog := Entry.of tok T_drill_far I_drill_far it_drill_far (fun (x0, x1, ()) => some ((S_far x0 x1, ()), ((), (), ()))) (fun (x0, x1, ()) r hok h => by cases h; exact ok_drill_far x0 x1 hok)

end Go.Proofs.Ytlibmodfpkhdpaa
namespace Go.Proofs.Ytlibmodfpkhdpaa
open Go Go.VM
/-! ### etchhouse.drill.greedy -/
noncomputable def I_drill_greedy : Inst := ⟨30, Try.f30, .two (.reg []) (.two (.reg []) (.two (.reg []) (.two (.two (.reg []) (.one (.loop ⟨[(5, .st (.at (.rf 5 []))), (15, .pv i)], [(5, ⟨(.own .flat), (.sl i), false, false⟩), (3, ⟨.flat, (.pair i (.pair i .unit)), true, false⟩), (6, ⟨(.own .flat), (.sl .bool), false, false⟩)], [0, 3, 6, 14], []⟩ (.two (.reg []) (.two (.two (.leaf) (.leaf)) (.two (.one (.two (.reg []) (.two (.two (.reg []) (.one (.loop ⟨[(7, .pv i), (19, .pv i)], [], [0, 3, 5, 6, 14, 15, 17, 18], [3, 5, 6]⟩ (.two (.reg []) (.two (.two (.leaf) (.leaf)) (.two (.one (.two (.reg []) (.two (.draw [(11, 0), (17, 0)] [0, 1, 2, 3, 4, 5, 6, 7, 8, 9, 10, 12, 13, 14, 15, 16, 11, 17, 18, 19, 20] [9, 3, 6]) (.two (.reg []) (.leaf))))) (.reg []))))))) (.two (.reg []) (.draw [] [0, 1, 4, 5, 6, 7, 2, 3, 8, 9] [5, 3]))))) (.reg []))))))) (.two (.reg []) (.leaf))))), (.cons (.pv (.sl (.pair i (.pair i .unit)))) (.cons (.pv (.pair i (.pair i .unit))) .nil)), (.cons (.own .flat) (.sl i) .nil)⟩
theorem it_drill_greedy : InTab Try.prog I_drill_greedy := ⟨Try.func30, by kernel_rfl, rfl⟩
noncomputable def T_drill_greedy : Nat → Entry Try.prog := nth (Entry.no Try.f0) [E_drill_far]
noncomputable def B_drill_greedy (n : Nat) (x0 : List (Int × (Int × Unit))) (x1 : (Int × (Int × Unit))) : Option (((List Int × Unit) × (Unit × (Unit × Unit)))) :=
  (bif ((decide ((0 ≤ ((x0.length : Nat) : Int))) && decide ((((x0.length : Nat) : Int) ≤ ((x0.length : Nat) : Int)))) && decide ((((x0.length : Nat) : Int) ≤ 4294967296))) then
    loopN (fun rec1 => fun
    | ((v1aa, ()), (v1ba, ((v1bbaa, (v1bbaba, ())), (v1bbba, ())))) =>
      (bif decide ((v1aa < ((x0.length : Nat) : Int))) then
        loopN (fun rec2 => fun
        | ((v2aa, (v2aba, ())), ()) =>
          (bif decide ((v2aba < ((x0.length : Nat) : Int))) then
            (bif inB v2aba x0.length then
              (bif inB v2aba v1bbba.length then
                (bif (!(v1bbba.getD v2aba.toNat false)) then
                  (bif decide ((v2aa < 0)) then
                    rec2 ((v2aba, (wrapI .i64 (v2aba + 1), ())), ())
                  else
                    (bif inB v2aa x0.length then
                      (bif decide ((S_far (v1bbaa, (v1bbaba, ())) (x0.getD v2aba.toNat (0, (0, ()))) < S_far (v1bbaa, (v1bbaba, ())) (x0.getD v2aa.toNat (0, (0, ()))))) then
                        rec2 ((v2aba, (wrapI .i64 (v2aba + 1), ())), ())
                      else
                        rec2 ((v2aa, (wrapI .i64 (v2aba + 1), ())), ()))
                    else
                      none))
                else
                  rec2 ((v2aa, (wrapI .i64 (v2aba + 1), ())), ()))
              else
                none)
            else
              none)
          else
            (bif inB v2aa v1bbba.length then
              (bif inB v2aa x0.length then
                (bif decide (((v1ba.length + 1) ≤ 4294967296)) then
                  rec1 ((wrapI .i64 (v1aa + 1), ()), ((v1ba ++ [v2aa]), (x0.getD v2aa.toNat (0, (0, ())), (v1bbba.set v2aa.toNat true, ()))))
                else
                  none)
              else
                none)
            else
              none)))
        n (((-1), (0, ())), ())
      else
        some ((v1ba, ()), ((), ((), ())))))
    n ((0, ()), ([], (x1, (List.replicate (α := Bool) (((x0.length : Nat) : Int).toNat) false, ()))))
  else
    none)
theorem B_drill_greedy_eq (n : Nat) (x0 : List (Int × (Int × Unit))) (x1 : (Int × (Int × Unit))) : bodyE ty T_drill_greedy n I_drill_greedy (x0, (x1, ())) = B_drill_greedy n x0 x1 := by kernel_rfl

end Go.Proofs.Ytlibmodfpkhdpaa
namespace Go.Proofs.Ytlibmodfpkhdpaa
open Go Go.VM
def S_greedyP (x0 : List Pt) (x1 : Pt) : Option ((List Int × Unit) × Unit × Unit × Unit) := bif decide (x0.length ≤ 4294967296) then (S_greedy S_far x0 x1).map (fun o => ((o, ()), ((), (), ()))) else none
theorem ok_drill_greedy (x0 : List Pt) (x1 : Pt) (hok : OkA I_drill_greedy.args (x0, x1, ())) (r) (h : S_greedyP x0 x1 = some r) : ∃ n, bodyE ty T_drill_greedy n I_drill_greedy (x0, x1, ()) = some r := ⟨x0.length + 1, by
  obtain ⟨⟨hl, _⟩, _⟩ := hok
  rw [B_drill_greedy_eq]
  unfold B_drill_greedy
  unfold S_greedyP at h
  cases hd : decide (x0.length ≤ 4294967296) with
  | false => rw [hd] at h; cases h
  | true =>
    rw [hd] at h
    have hd := of_decide_eq_true hd
    have c1 : ((decide ((0 : Int) ≤ ((x0.length : Nat) : Int)) && decide ((((x0.length : Nat) : Int) ≤ ((x0.length : Nat) : Int)))) && decide ((((x0.length : Nat) : Int) ≤ 4294967296))) = true := by simp; omega
    rw [c1, cond_true, ← h, cond_true]
    refine (loop_listI (l := x0) (fun i (s : List Int × Pt × List Bool) => ((i, ()), (s.1, (s.2.1, (s.2.2, ()))))) (fun i s => s.1.length = i ∧ s.2.2.length = x0.length) (greedyB S_far x0) (fun s => some ((s.1, ()), ((), (), ()))) (fun i h => ?_) (fun ⟨o, ⟨a, b, _⟩, u⟩ _ rec => by simp only [lt_self, cond_false]) (Nat.lt_succ_self _) (s := ([], x1, List.replicate x0.length false)) ⟨rfl, by simp⟩).trans ?_
    · rintro ⟨o, ⟨a, b, ⟨⟩⟩, u⟩ ⟨ho, hu⟩
      simp only at ho hu
      obtain ⟨p1, p2⟩ := pick_inv S_far x0 u (a, b, ())
      refine ⟨fun s' hs => ?_, fun rec => ?_⟩
      · simp only [greedyB] at hs
        cases hb : inB (S_pick S_far x0 u (a, b, ())) x0.length with
        | false => rw [hb] at hs; cases hs
        | true => rw [hb] at hs; cases hs; exact ⟨by simp [ho], by simp [hu]⟩
      · simp only [lt_nat h, cond_true]
        refine (loop_fold (l := x0) (fun i (s : Int) => ((s, (i, ())), ())) (fun i b => -1 ≤ b ∧ b < (i : Int)) (pickF S_far x0 u (a, b, ())) _ (fun k hk s hI => ⟨?_, fun rec2 => ?_⟩) (fun s _ rec2 => by simp only [lt_self, cond_false]; exact rfl) (Nat.lt_succ_self _) (s := -1) (by simp)).trans ?_
        · simp only [pickF]
          cases u.getD k false with
          | true => simp only [Bool.not_true, cond_false]; omega
          | false =>
            simp only [Bool.not_false, cond_true]
            cases decide (s < 0) with
            | true => simp only [cond_true]; omega
            | false =>
              simp only [cond_false]
              cases decide (S_far (a, b, ()) x0[k] < S_far (a, b, ()) (x0.getD s.toNat pt0)) with
              | true => simp only [cond_true]; omega
              | false => simp only [cond_false]; omega
        · simp only [lt_nat hk, inB_nat hk, inB_nat (show k < u.length by omega), getD_at hk, succ64 hk hl, cond_true, pickF, Int.toNat_natCast]
          cases u.getD k false with
          | true => simp only [Bool.not_true, cond_false]
          | false =>
            simp only [Bool.not_false, cond_true]
            cases hs0 : decide (s < 0) with
            | true => rfl
            | false =>
              simp only [decide_eq_false_iff_not] at hs0
              simp only [cond_false, inB_int (show 0 ≤ s by omega) (show s < (x0.length : Int) by omega), cond_true]
              show (bif decide (S_far (a, b, ()) x0[k] < S_far (a, b, ()) (x0.getD s.toNat pt0)) then _ else _) = _
              cases decide (S_far (a, b, ()) x0[k] < S_far (a, b, ()) (x0.getD s.toNat pt0)) <;> rfl
        · simp only [greedyB]
          rw [hu]
          change (bif inB (S_pick S_far x0 u (a, b, ())) x0.length then (bif inB (S_pick S_far x0 u (a, b, ())) x0.length then _ else _) else _) = _
          cases inB (S_pick S_far x0 u (a, b, ())) x0.length with
          | false => rfl
          | true =>
            have c3 : decide (o.length + 1 ≤ 4294967296) = true := by simp; omega
            simp only [cond_true, c3, succ64 h hl]
            rfl
    · exact greedy_map _ _ (fun o => ((o, ()), ((), (), ()))) _ _ _⟩
noncomputable def E_drill_greedy : Entry Try.prog := Entry.of tok T_drill_greedy I_drill_greedy it_drill_greedy (fun (x0, x1, ()) => S_greedyP x0 x1) (fun (x0, x1, ()) r hok h => ok_drill_greedy x0 x1 hok r h)

end Go.Proofs.Ytlibmodfpkhdpaa
namespace Go.Proofs.Ytlibmodfpkhdpaa
open Go Go.VM
/-! ### etchhouse.drill.Greedy -/
noncomputable def I_drill_Greedy : Inst := ⟨11, Try.f11, .two (.reg []) (.two (.two (.reg [(2, 0)]) (.two (.reg []) (.two (.two (.reg []) (.leaf)) (.leaf)))) (.two (.reg [(2, 1)]) (.leaf))), (.cons (.pv (.sl (.pair i (.pair i .unit)))) (.cons (.pv (.pair i (.pair i .unit))) .nil)), (.cons (.own .flat) (.sl i) (.cons .flat i .nil))⟩
theorem it_drill_Greedy : InTab Try.prog I_drill_Greedy := ⟨Try.func11, by kernel_rfl, rfl⟩
noncomputable def T_drill_Greedy : Nat → Entry Try.prog := nth (Entry.no Try.f0) [E_drill_checkPoints, E_drill_greedy]
noncomputable def B_drill_Greedy (x0 : List (Int × (Int × Unit))) (x1 : (Int × (Int × Unit))) : Option (((List Int × (Int × Unit)) × (Unit × (Unit × Unit)))) :=
  (bif (!(decide ((S_chk x0 x1 200 = 0)))) then
    some (([], (S_chk x0 x1 200, ())), ((), ((), ())))
  else
    ((S_greedyP x0 x1).bind fun ((r1aa, ()), ((), ((), ()))) =>
    some ((r1aa, (0, ())), ((), ((), ())))))
theorem B_drill_Greedy_eq (n : Nat) (x0 : List (Int × (Int × Unit))) (x1 : (Int × (Int × Unit))) : bodyE ty T_drill_Greedy n I_drill_Greedy (x0, (x1, ())) = B_drill_Greedy x0 x1 := by kernel_rfl

end Go.Proofs.Ytlibmodfpkhdpaa
namespace Go.Proofs.Ytlibmodfpkhdpaa
open Go Go.VM
def S_GreedyP (x0 : List Pt) (x1 : Pt) : Option ((List Int × (Int × Unit)) × Unit × Unit × Unit) := bif decide (S_chk x0 x1 200 = 0) then (S_greedy S_far x0 x1).map (fun o => ((o, 0, ()), ((), (), ()))) else some (([], S_chk x0 x1 200, ()), ((), (), ()))
theorem ok_drill_Greedy (x0 : List Pt) (x1 : Pt) (hok : OkA I_drill_Greedy.args (x0, x1, ())) (r) (h : S_GreedyP x0 x1 = some r) : ∃ n, bodyE ty T_drill_Greedy n I_drill_Greedy (x0, x1, ()) = some r := ⟨0, by
  rw [B_drill_Greedy_eq, ← h]
  unfold B_drill_Greedy S_GreedyP
  cases hc : decide (S_chk x0 x1 200 = 0) with
  | false => rfl
  | true =>
    simp only [Bool.not_true, cond_false, cond_true]
    have hl : x0.length ≤ 200 := by
      have hc := of_decide_eq_true hc
      unfold S_chk at hc
      cases hd : decide ((200 : Int) < (x0.length : Int)) with
      | true => rw [hd] at hc; cases hc
      | false => simp only [decide_eq_false_iff_not] at hd; omega
    unfold S_greedyP
    rw [decide_eq_true (show x0.length ≤ 4294967296 by omega), cond_true]
    cases S_greedy S_far x0 x1 <;> rfl⟩
noncomputable def E_drill_Greedy : Entry Try.prog := Entry.of tok T_drill_Greedy I_drill_Greedy it_drill_Greedy (fun (x0, x1, ()) => S_GreedyP x0 x1) (fun (x0, x1, ()) r hok h => ok_drill_Greedy x0 x1 hok r h)

end Go.Proofs.Ytlibmodfpkhdpaa
namespace Go.Proofs.Ytlibmodfpkhdpaa
open Go Go.VM
/-! ### slices.Reverse[[]int,int] -/
noncomputable def I_slices_Reverse_int_int_ios : Inst := ⟨51, Try.f51, .two (.reg []) (.one (.loop ⟨[(2, .pv i), (3, .pv i)], [(1000, ⟨(.len .flat), (.sl i), false, true⟩)], [0], []⟩ (.two (.two (.reg []) (.two (.leaf) (.leaf))) (.two (.one (.draw [] [0, 1, 2, 3, 4, 5, 6, 7, 8, 9, 10, 11, 12, 13, 14, 15] [1000])) (.reg []))))), (.cons (.ios (.len .flat) (.sl i)) .nil), .nil⟩
theorem it_slices_Reverse_int_int_ios : InTab Try.prog I_slices_Reverse_int_int_ios := ⟨Try.func51, by kernel_rfl, rfl⟩
noncomputable def T_slices_Reverse_int_int_ios : Nat → Entry Try.prog := nth (Entry.no Try.f0) []
noncomputable def B_slices_Reverse_int_int_ios (n : Nat) (x0 : List Int) : Option ((Unit × (List Int × Unit))) :=
  loopN (fun rec1 => fun
  | ((v1aa, (v1aba, ())), (v1ba, ())) =>
    (bif decide ((v1aa < v1aba)) then
      (bif inB v1aba v1ba.length then
        (bif inB v1aa v1ba.length then
          (bif inB v1aa v1ba.length then
            (bif inB v1aba ((v1ba.set v1aa.toNat (v1ba.getD v1aba.toNat (0 : Int))).length) then
              rec1 ((wrapI .i64 (v1aa + 1), (wrapI .i64 (v1aba - 1), ())), ((v1ba.set v1aa.toNat (v1ba.getD v1aba.toNat (0 : Int))).set v1aba.toNat (v1ba.getD v1aa.toNat (0 : Int)), ()))
            else
              none)
          else
            none)
        else
          none)
      else
        none)
    else
      some ((), (v1ba, ()))))
  n ((0, (wrapI .i64 (((x0.length : Nat) : Int) - 1), ())), (x0, ()))
theorem B_slices_Reverse_int_int_ios_eq (n : Nat) (x0 : List Int) : bodyE ty T_slices_Reverse_int_int_ios n I_slices_Reverse_int_int_ios (x0, ()) = B_slices_Reverse_int_int_ios n x0 := by kernel_rfl

end Go.Proofs.Ytlibmodfpkhdpaa
namespace Go.Proofs.Ytlibmodfpkhdpaa
open Go Go.VM
theorem ok_slices_Reverse_int_int_ios (x0 : List Int) (hok : OkA I_slices_Reverse_int_int_ios.args (x0, ())) (r) (h : (bif decide (x0.length ≤ 4294967296) then some ((), (S_rev x0, ())) else none) = some r) : ∃ n, bodyE ty T_slices_Reverse_int_int_ios n I_slices_Reverse_int_int_ios (x0, ()) = some r := ⟨x0.length + 1, by
  cases hd : decide (x0.length ≤ 4294967296) with
  | false => rw [hd] at h; cases h
  | true =>
    have hl : x0.length ≤ maxLen := Nat.le_trans (of_decide_eq_true hd) (by decide)
    rw [B_slices_Reverse_int_int_ios_eq, ← h, hd]
    unfold B_slices_Reverse_int_int_ios S_rev
    exact rev_loop (R := fun a => some ((), (a, ()))) (d := 0) hl (Nat.lt_succ_self _)⟩
noncomputable def E_slices_Reverse_int_int_ios : Entry Try.prog := Entry.of tok T_slices_Reverse_int_int_ios I_slices_Reverse_int_int_ios it_slices_Reverse_int_int_ios (fun (x0, ()) => bif decide (x0.length ≤ 4294967296) then some ((), (S_rev x0, ())) else none) (fun (x0, ()) r hok h => ok_slices_Reverse_int_int_ios x0 hok r h)

end Go.Proofs.Ytlibmodfpkhdpaa
namespace Go.Proofs.Ytlibmodfpkhdpaa
open Go Go.VM
/-! ### etchhouse.drill.turn -/
noncomputable def I_drill_turn_ios : Inst := ⟨41, Try.f41, .two (.reg []) (.two (.two (.reg []) (.one (.loop ⟨[(17, .pv i)], [], [0, 2, 4, 16], [1020, 4]⟩ (.two (.reg []) (.two (.two (.leaf) (.leaf)) (.two (.one (.two (.reg []) (.two (.reg []) (.two (.two (.reg []) (.two (.reg []) (.leaf))) (.two (.reg []) (.one (.loop ⟨[(9, .pv i)], [], [0, 2, 4, 7, 8, 16, 17], [1020, 4, 8]⟩ (.two (.two (.reg []) (.two (.leaf) (.leaf))) (.two (.one (.two (.draws [] (.split 15 14 (.leaf [0, 1, 2, 3, 4, 5, 6, 7, 8, 9, 10, 11, 12, 13, 14, 15, 16, 17]) (.leaf [0, 1, 2, 3, 4, 5, 6, 7, 8, 9, 10, 11, 12, 13, 15, 14, 16, 17])) [1020]) (.two (.draw [(2, 0), (5, 0)] [0, 1, 3, 4, 2, 5, 6, 7] [11, 10, 8]) (.two (.two (.reg []) (.two (.two (.reg []) (.draw [(3, 0), (8, 0)] [0, 1, 2, 5, 6, 7, 3, 4, 8, 9, 10, 11] [14, 11, 10])) (.leaf))) (.two (.reg []) (.two (.two (.reg [(5, 1)]) (.two (.reg []) (.leaf))) (.leaf))))))) (.reg [])))))))))) (.reg []))))))) (.two (.reg []) (.leaf))), (.cons (.pv (.sl (.pair i (.pair i .unit)))) (.cons (.pv (.pair i (.pair i .unit))) (.cons (.ios (.len .flat) (.sl i)) .nil))), (.cons .flat .bool .nil)⟩
theorem it_drill_turn_ios : InTab Try.prog I_drill_turn_ios := ⟨Try.func41, by kernel_rfl, rfl⟩
noncomputable def T_drill_turn_ios : Nat → Entry Try.prog := nth (Entry.no Try.f0) [E_drill_far, E_slices_Reverse_int_int_ios]
noncomputable def B_drill_turn_ios (n : Nat) (x0 : List (Int × (Int × Unit))) (x1 : (Int × (Int × Unit))) (x2 : List Int) : Option (((Bool × Unit) × (Unit × (Unit × (List Int × Unit))))) :=
  loopN (fun rec1 => fun
  | ((v1aa, ()), ()) =>
    (bif decide ((v1aa < ((x2.length : Nat) : Int))) then
      (bif decide ((0 < v1aa)) then
        (bif inB (wrapI .i64 (v1aa - 1)) x2.length then
          (bif inB (x2.getD ((wrapI .i64 (v1aa - 1)).toNat) (0 : Int)) x0.length then
            loopN (fun rec2 => fun
            | ((v2aa, ()), ()) =>
              (bif decide ((v2aa < ((x2.length : Nat) : Int))) then
                (both
                  ((bif inB v1aa x2.length then
                    (bif inB (x2.getD v1aa.toNat (0 : Int)) x0.length then
                      (bif inB v2aa x2.length then
                        (bif inB (x2.getD v2aa.toNat (0 : Int)) x0.length then
                          (bif decide ((wrapI .i64 (v2aa + 1) < ((x2.length : Nat) : Int))) then
                            (bif inB (wrapI .i64 (v2aa + 1)) x2.length then
                              (bif inB (x2.getD ((wrapI .i64 (v2aa + 1)).toNat) (0 : Int)) x0.length then
                                (bif decide ((((wrapI .i64 (S_far (x0.getD ((x2.getD ((wrapI .i64 (v1aa - 1)).toNat) (0 : Int)).toNat) (0, (0, ()))) (x0.getD ((x2.getD v2aa.toNat (0 : Int)).toNat) (0, (0, ()))) + S_far (x0.getD ((x2.getD v1aa.toNat (0 : Int)).toNat) (0, (0, ()))) (x0.getD ((x2.getD ((wrapI .i64 (v2aa + 1)).toNat) (0 : Int)).toNat) (0, (0, ()))))) : Int) < wrapI .i64 (S_far (x0.getD ((x2.getD ((wrapI .i64 (v1aa - 1)).toNat) (0 : Int)).toNat) (0, (0, ()))) (x0.getD ((x2.getD v1aa.toNat (0 : Int)).toNat) (0, (0, ()))) + S_far (x0.getD ((x2.getD v2aa.toNat (0 : Int)).toNat) (0, (0, ()))) (x0.getD ((x2.getD ((wrapI .i64 (v2aa + 1)).toNat) (0 : Int)).toNat) (0, (0, ())))))) then
                                  (bif (decide ((0 ≤ wrapI .i64 (v2aa + 1))) && decide ((wrapI .i64 (v2aa + 1) ≤ ((x2.length : Nat) : Int)))) then
                                    (bif (decide ((0 ≤ v1aa)) && decide ((v1aa ≤ (((wrapI .i64 (v2aa + 1)).toNat : Nat) : Int)))) then
                                      (((bif decide ((((x2.drop v1aa.toNat).take ((wrapI .i64 (v2aa + 1)).toNat - v1aa.toNat)).length ≤ 4294967296)) then
                                          some ((), (S_rev ((x2.drop v1aa.toNat).take ((wrapI .i64 (v2aa + 1)).toNat - v1aa.toNat)), ()))
                                        else
                                          none)).bind fun ((), (r3ba, ())) =>
                                      some ((true, ()), ((), ((), (splice x2 v1aa.toNat r3ba, ())))))
                                    else
                                      none)
                                  else
                                    none)
                                else
                                  rec2 ((wrapI .i64 (v2aa + 1), ()), ()))
                              else
                                none)
                            else
                              none)
                          else
                            (bif decide ((((S_far (x0.getD ((x2.getD ((wrapI .i64 (v1aa - 1)).toNat) (0 : Int)).toNat) (0, (0, ()))) (x0.getD ((x2.getD v2aa.toNat (0 : Int)).toNat) (0, (0, ())))) : Int) < S_far (x0.getD ((x2.getD ((wrapI .i64 (v1aa - 1)).toNat) (0 : Int)).toNat) (0, (0, ()))) (x0.getD ((x2.getD v1aa.toNat (0 : Int)).toNat) (0, (0, ()))))) then
                              (bif (decide ((0 ≤ wrapI .i64 (v2aa + 1))) && decide ((wrapI .i64 (v2aa + 1) ≤ ((x2.length : Nat) : Int)))) then
                                (bif (decide ((0 ≤ v1aa)) && decide ((v1aa ≤ (((wrapI .i64 (v2aa + 1)).toNat : Nat) : Int)))) then
                                  (((bif decide ((((x2.drop v1aa.toNat).take ((wrapI .i64 (v2aa + 1)).toNat - v1aa.toNat)).length ≤ 4294967296)) then
                                      some ((), (S_rev ((x2.drop v1aa.toNat).take ((wrapI .i64 (v2aa + 1)).toNat - v1aa.toNat)), ()))
                                    else
                                      none)).bind fun ((), (r4ba, ())) =>
                                  some ((true, ()), ((), ((), (splice x2 v1aa.toNat r4ba, ())))))
                                else
                                  none)
                              else
                                none)
                            else
                              rec2 ((wrapI .i64 (v2aa + 1), ()), ())))
                        else
                          none)
                      else
                        none)
                    else
                      none)
                  else
                    none))
                  ((bif inB v1aa x2.length then
                    (bif inB (x2.getD v1aa.toNat (0 : Int)) x0.length then
                      (bif inB v2aa x2.length then
                        (bif inB (x2.getD v2aa.toNat (0 : Int)) x0.length then
                          (bif decide ((wrapI .i64 (v2aa + 1) < ((x2.length : Nat) : Int))) then
                            (bif inB (wrapI .i64 (v2aa + 1)) x2.length then
                              (bif inB (x2.getD ((wrapI .i64 (v2aa + 1)).toNat) (0 : Int)) x0.length then
                                (bif decide ((((wrapI .i64 (S_far (x0.getD ((x2.getD ((wrapI .i64 (v1aa - 1)).toNat) (0 : Int)).toNat) (0, (0, ()))) (x0.getD ((x2.getD v2aa.toNat (0 : Int)).toNat) (0, (0, ()))) + S_far (x0.getD ((x2.getD v1aa.toNat (0 : Int)).toNat) (0, (0, ()))) (x0.getD ((x2.getD ((wrapI .i64 (v2aa + 1)).toNat) (0 : Int)).toNat) (0, (0, ()))))) : Int) < wrapI .i64 (S_far (x0.getD ((x2.getD ((wrapI .i64 (v1aa - 1)).toNat) (0 : Int)).toNat) (0, (0, ()))) (x0.getD ((x2.getD v1aa.toNat (0 : Int)).toNat) (0, (0, ()))) + S_far (x0.getD ((x2.getD v2aa.toNat (0 : Int)).toNat) (0, (0, ()))) (x0.getD ((x2.getD ((wrapI .i64 (v2aa + 1)).toNat) (0 : Int)).toNat) (0, (0, ())))))) then
                                  (bif (decide ((0 ≤ wrapI .i64 (v2aa + 1))) && decide ((wrapI .i64 (v2aa + 1) ≤ ((x2.length : Nat) : Int)))) then
                                    (bif (decide ((0 ≤ v1aa)) && decide ((v1aa ≤ (((wrapI .i64 (v2aa + 1)).toNat : Nat) : Int)))) then
                                      (((bif decide ((((x2.drop v1aa.toNat).take ((wrapI .i64 (v2aa + 1)).toNat - v1aa.toNat)).length ≤ 4294967296)) then
                                          some ((), (S_rev ((x2.drop v1aa.toNat).take ((wrapI .i64 (v2aa + 1)).toNat - v1aa.toNat)), ()))
                                        else
                                          none)).bind fun ((), (r5ba, ())) =>
                                      some ((true, ()), ((), ((), (splice x2 v1aa.toNat r5ba, ())))))
                                    else
                                      none)
                                  else
                                    none)
                                else
                                  rec2 ((wrapI .i64 (v2aa + 1), ()), ()))
                              else
                                none)
                            else
                              none)
                          else
                            (bif decide ((((S_far (x0.getD ((x2.getD ((wrapI .i64 (v1aa - 1)).toNat) (0 : Int)).toNat) (0, (0, ()))) (x0.getD ((x2.getD v2aa.toNat (0 : Int)).toNat) (0, (0, ())))) : Int) < S_far (x0.getD ((x2.getD ((wrapI .i64 (v1aa - 1)).toNat) (0 : Int)).toNat) (0, (0, ()))) (x0.getD ((x2.getD v1aa.toNat (0 : Int)).toNat) (0, (0, ()))))) then
                              (bif (decide ((0 ≤ wrapI .i64 (v2aa + 1))) && decide ((wrapI .i64 (v2aa + 1) ≤ ((x2.length : Nat) : Int)))) then
                                (bif (decide ((0 ≤ v1aa)) && decide ((v1aa ≤ (((wrapI .i64 (v2aa + 1)).toNat : Nat) : Int)))) then
                                  (((bif decide ((((x2.drop v1aa.toNat).take ((wrapI .i64 (v2aa + 1)).toNat - v1aa.toNat)).length ≤ 4294967296)) then
                                      some ((), (S_rev ((x2.drop v1aa.toNat).take ((wrapI .i64 (v2aa + 1)).toNat - v1aa.toNat)), ()))
                                    else
                                      none)).bind fun ((), (r6ba, ())) =>
                                  some ((true, ()), ((), ((), (splice x2 v1aa.toNat r6ba, ())))))
                                else
                                  none)
                              else
                                none)
                            else
                              rec2 ((wrapI .i64 (v2aa + 1), ()), ())))
                        else
                          none)
                      else
                        none)
                    else
                      none)
                  else
                    none)))
              else
                rec1 ((wrapI .i64 (v1aa + 1), ()), ())))
            n ((wrapI .i64 (v1aa + 1), ()), ())
          else
            none)
        else
          none)
      else
        loopN (fun rec7 => fun
        | ((v7aa, ()), ()) =>
          (bif decide ((v7aa < ((x2.length : Nat) : Int))) then
            (both
              ((bif inB v1aa x2.length then
                (bif inB (x2.getD v1aa.toNat (0 : Int)) x0.length then
                  (bif inB v7aa x2.length then
                    (bif inB (x2.getD v7aa.toNat (0 : Int)) x0.length then
                      (bif decide ((wrapI .i64 (v7aa + 1) < ((x2.length : Nat) : Int))) then
                        (bif inB (wrapI .i64 (v7aa + 1)) x2.length then
                          (bif inB (x2.getD ((wrapI .i64 (v7aa + 1)).toNat) (0 : Int)) x0.length then
                            (bif decide ((((wrapI .i64 (S_far x1 (x0.getD ((x2.getD v7aa.toNat (0 : Int)).toNat) (0, (0, ()))) + S_far (x0.getD ((x2.getD v1aa.toNat (0 : Int)).toNat) (0, (0, ()))) (x0.getD ((x2.getD ((wrapI .i64 (v7aa + 1)).toNat) (0 : Int)).toNat) (0, (0, ()))))) : Int) < wrapI .i64 (S_far x1 (x0.getD ((x2.getD v1aa.toNat (0 : Int)).toNat) (0, (0, ()))) + S_far (x0.getD ((x2.getD v7aa.toNat (0 : Int)).toNat) (0, (0, ()))) (x0.getD ((x2.getD ((wrapI .i64 (v7aa + 1)).toNat) (0 : Int)).toNat) (0, (0, ())))))) then
                              (bif (decide ((0 ≤ wrapI .i64 (v7aa + 1))) && decide ((wrapI .i64 (v7aa + 1) ≤ ((x2.length : Nat) : Int)))) then
                                (bif (decide ((0 ≤ v1aa)) && decide ((v1aa ≤ (((wrapI .i64 (v7aa + 1)).toNat : Nat) : Int)))) then
                                  (((bif decide ((((x2.drop v1aa.toNat).take ((wrapI .i64 (v7aa + 1)).toNat - v1aa.toNat)).length ≤ 4294967296)) then
                                      some ((), (S_rev ((x2.drop v1aa.toNat).take ((wrapI .i64 (v7aa + 1)).toNat - v1aa.toNat)), ()))
                                    else
                                      none)).bind fun ((), (r8ba, ())) =>
                                  some ((true, ()), ((), ((), (splice x2 v1aa.toNat r8ba, ())))))
                                else
                                  none)
                              else
                                none)
                            else
                              rec7 ((wrapI .i64 (v7aa + 1), ()), ()))
                          else
                            none)
                        else
                          none)
                      else
                        (bif decide ((((S_far x1 (x0.getD ((x2.getD v7aa.toNat (0 : Int)).toNat) (0, (0, ())))) : Int) < S_far x1 (x0.getD ((x2.getD v1aa.toNat (0 : Int)).toNat) (0, (0, ()))))) then
                          (bif (decide ((0 ≤ wrapI .i64 (v7aa + 1))) && decide ((wrapI .i64 (v7aa + 1) ≤ ((x2.length : Nat) : Int)))) then
                            (bif (decide ((0 ≤ v1aa)) && decide ((v1aa ≤ (((wrapI .i64 (v7aa + 1)).toNat : Nat) : Int)))) then
                              (((bif decide ((((x2.drop v1aa.toNat).take ((wrapI .i64 (v7aa + 1)).toNat - v1aa.toNat)).length ≤ 4294967296)) then
                                  some ((), (S_rev ((x2.drop v1aa.toNat).take ((wrapI .i64 (v7aa + 1)).toNat - v1aa.toNat)), ()))
                                else
                                  none)).bind fun ((), (r9ba, ())) =>
                              some ((true, ()), ((), ((), (splice x2 v1aa.toNat r9ba, ())))))
                            else
                              none)
                          else
                            none)
                        else
                          rec7 ((wrapI .i64 (v7aa + 1), ()), ())))
                    else
                      none)
                  else
                    none)
                else
                  none)
              else
                none))
              ((bif inB v1aa x2.length then
                (bif inB (x2.getD v1aa.toNat (0 : Int)) x0.length then
                  (bif inB v7aa x2.length then
                    (bif inB (x2.getD v7aa.toNat (0 : Int)) x0.length then
                      (bif decide ((wrapI .i64 (v7aa + 1) < ((x2.length : Nat) : Int))) then
                        (bif inB (wrapI .i64 (v7aa + 1)) x2.length then
                          (bif inB (x2.getD ((wrapI .i64 (v7aa + 1)).toNat) (0 : Int)) x0.length then
                            (bif decide ((((wrapI .i64 (S_far x1 (x0.getD ((x2.getD v7aa.toNat (0 : Int)).toNat) (0, (0, ()))) + S_far (x0.getD ((x2.getD v1aa.toNat (0 : Int)).toNat) (0, (0, ()))) (x0.getD ((x2.getD ((wrapI .i64 (v7aa + 1)).toNat) (0 : Int)).toNat) (0, (0, ()))))) : Int) < wrapI .i64 (S_far x1 (x0.getD ((x2.getD v1aa.toNat (0 : Int)).toNat) (0, (0, ()))) + S_far (x0.getD ((x2.getD v7aa.toNat (0 : Int)).toNat) (0, (0, ()))) (x0.getD ((x2.getD ((wrapI .i64 (v7aa + 1)).toNat) (0 : Int)).toNat) (0, (0, ())))))) then
                              (bif (decide ((0 ≤ wrapI .i64 (v7aa + 1))) && decide ((wrapI .i64 (v7aa + 1) ≤ ((x2.length : Nat) : Int)))) then
                                (bif (decide ((0 ≤ v1aa)) && decide ((v1aa ≤ (((wrapI .i64 (v7aa + 1)).toNat : Nat) : Int)))) then
                                  (((bif decide ((((x2.drop v1aa.toNat).take ((wrapI .i64 (v7aa + 1)).toNat - v1aa.toNat)).length ≤ 4294967296)) then
                                      some ((), (S_rev ((x2.drop v1aa.toNat).take ((wrapI .i64 (v7aa + 1)).toNat - v1aa.toNat)), ()))
                                    else
                                      none)).bind fun ((), (r10ba, ())) =>
                                  some ((true, ()), ((), ((), (splice x2 v1aa.toNat r10ba, ())))))
                                else
                                  none)
                              else
                                none)
                            else
                              rec7 ((wrapI .i64 (v7aa + 1), ()), ()))
                          else
                            none)
                        else
                          none)
                      else
                        (bif decide ((((S_far x1 (x0.getD ((x2.getD v7aa.toNat (0 : Int)).toNat) (0, (0, ())))) : Int) < S_far x1 (x0.getD ((x2.getD v1aa.toNat (0 : Int)).toNat) (0, (0, ()))))) then
                          (bif (decide ((0 ≤ wrapI .i64 (v7aa + 1))) && decide ((wrapI .i64 (v7aa + 1) ≤ ((x2.length : Nat) : Int)))) then
                            (bif (decide ((0 ≤ v1aa)) && decide ((v1aa ≤ (((wrapI .i64 (v7aa + 1)).toNat : Nat) : Int)))) then
                              (((bif decide ((((x2.drop v1aa.toNat).take ((wrapI .i64 (v7aa + 1)).toNat - v1aa.toNat)).length ≤ 4294967296)) then
                                  some ((), (S_rev ((x2.drop v1aa.toNat).take ((wrapI .i64 (v7aa + 1)).toNat - v1aa.toNat)), ()))
                                else
                                  none)).bind fun ((), (r11ba, ())) =>
                              some ((true, ()), ((), ((), (splice x2 v1aa.toNat r11ba, ())))))
                            else
                              none)
                          else
                            none)
                        else
                          rec7 ((wrapI .i64 (v7aa + 1), ()), ())))
                    else
                      none)
                  else
                    none)
                else
                  none)
              else
                none)))
          else
            rec1 ((wrapI .i64 (v1aa + 1), ()), ())))
        n ((wrapI .i64 (v1aa + 1), ()), ()))
    else
      some ((false, ()), ((), ((), (x2, ()))))))
  n ((0, ()), ())
theorem B_drill_turn_ios_eq (n : Nat) (x0 : List (Int × (Int × Unit))) (x1 : (Int × (Int × Unit))) (x2 : List Int) : bodyE ty T_drill_turn_ios n I_drill_turn_ios (x0, (x1, (x2, ()))) = B_drill_turn_ios n x0 x1 x2 := by kernel_rfl

end Go.Proofs.Ytlibmodfpkhdpaa
namespace Go.Proofs.Ytlibmodfpkhdpaa
open Go Go.VM
theorem apart_absZ {a b : Int} (ha : -1000000 ≤ a ∧ a ≤ 1000000) (hb : -1000000 ≤ b ∧ b ≤ 1000000) : S_apart a b = absZ (a - b) := by
  unfold S_apart absZ
  rw [wrap64 (n := a - b) (by omega) (by omega), wrap64 (n := b - a) (by omega) (by omega)]
  by_cases h : a - b < b - a
  · rw [decide_eq_true h, cond_true, if_pos (by omega)]; omega
  · rw [decide_eq_false h, cond_false, if_neg (by omega)]
theorem far_dstZ {p q : Pt} (hp : inR p) (hq : inR q) : S_far p q = dstZ p q := by
  unfold S_far dstZ maxZ
  rw [apart_absZ ⟨hp.1, hp.2.1⟩ ⟨hq.1, hq.2.1⟩, apart_absZ ⟨hp.2.2.1, hp.2.2.2⟩ ⟨hq.2.2.1, hq.2.2.2⟩]
  split
  · rename_i h; rw [decide_eq_true h]; rfl
  · rename_i h; rw [decide_eq_false h]; rfl
noncomputable def S_turnO (x0 : List Pt) (x1 : Pt) (x2 : List Int) : Option ((Bool × Unit) × Unit × Unit × List Int × Unit) := open Classical in if GoodT x0 x1 x2 then (match turnR x0 x1 x2 with | some o => some ((true, ()), ((), (), o, ())) | none => some ((false, ()), ((), (), x2, ()))) else none
theorem ok_drill_turn_ios (x0 : List Pt) (x1 : Pt) (x2 : List Int) (hok : OkA I_drill_turn_ios.args (x0, x1, x2, ())) (r) (h : S_turnO x0 x1 x2 = some r) : ∃ n, bodyE ty T_drill_turn_ios n I_drill_turn_ios (x0, x1, x2, ()) = some r := ⟨x2.length + 1, by
  rw [B_drill_turn_ios_eq, ← h]
  by_cases hg : GoodT x0 x1 x2
  case neg => unfold S_turnO at h; rw [if_neg hg] at h; cases h
  have hS : S_turnO x0 x1 x2 = (match placeT x0 x1 x2 with | some q => some ((true, ()), ((), (), turnO x2 q.1 q.2, ())) | none => some ((false, ()), ((), (), x2, ()))) := by
    unfold S_turnO turnR
    rw [if_pos hg]
    cases placeT x0 x1 x2 <;> rfl
  rw [hS]
  have db := dst_bound
  have hlen := hg.len
  have pin : ∀ j, inR (ptO x0 x2 j) := fun j => getD_inR hg.pts _
  have gd : ∀ j, j < x2.length → inB (x2.getD j 0) x0.length = true := fun j hj => by
    rw [getD_at hj]
    have := hg.at_ _ (List.getElem_mem hj)
    exact inB_int this.1 this.2
  have fp : ∀ a b, S_far (x0.getD (x2.getD a 0).toNat (0, 0, ())) (x0.getD (x2.getD b 0).toNat (0, 0, ())) = dstZ (ptO x0 x2 a) (ptO x0 x2 b) := fun a b => far_dstZ (pin a) (pin b)
  have f0 : ∀ b, S_far x1 (x0.getD (x2.getD b 0).toNat (0, 0, ())) = dstZ x1 (ptO x0 x2 b) := fun b => far_dstZ hg.p (pin b)
  unfold B_drill_turn_ios
  refine (loop_findI (fun i => ((i, ()), ())) (fun i => findK (gainO x0 x1 x2 i) (x2.length - (i + 1)) (i + 1)) (fun i k => some ((true, ()), ((), (), turnO x2 i k, ()))) (some ((false, ()), ((), (), x2, ()))) x2.length 0 (fun i _ hi rec1 => ?_) (fun rec1 => by simp only [lt_self, cond_false]) x2.length 0 (x2.length + 1) (Nat.zero_le _) (by omega) (by omega)).trans ?_
  · have i1 : wrapI .i64 (((i : Nat) : Int) + 1) = ((i + 1 : Nat) : Int) := (wrap64 (by omega) (by omega)).trans (by omega)
    by_cases hz : i = 0
    · have hbef : befO x0 x1 x2 i = x1 := by unfold befO; rw [if_pos hz]
      have z1 : decide ((0 : Int) < (i : Int)) = false := decide_eq_false (by omega)
      simp only [lt_nat hi, z1, i1, cond_true, cond_false]
      refine (loop_findK (fun k => ((k, ()), ())) (gainO x0 x1 x2 i) (fun k => some ((true, ()), ((), (), turnO x2 i k, ()))) (rec1 ((((i + 1 : Nat) : Int), ()), ())) x2.length (i + 1) (fun k hk0 hk rec2 => ?_) (fun rec2 => ?_) (x2.length - (i + 1)) (i + 1) (x2.length + 1) (Nat.le_refl _) (by omega) (by omega)).trans ?_
      rotate_left
      · simp only [lt_self, cond_false]
      · cases findK (gainO x0 x1 x2 i) (x2.length - (i + 1)) (i + 1) <;> rfl
      · have k1 : wrapI .i64 (((k : Nat) : Int) + 1) = ((k + 1 : Nat) : Int) := (wrap64 (by omega) (by omega)).trans (by omega)
        have s1 : (decide ((0 : Int) ≤ ((k + 1 : Nat) : Int)) && decide (((k + 1 : Nat) : Int) ≤ ((x2.length : Nat) : Int))) = true := by rw [decide_eq_true (show (0 : Int) ≤ ((k + 1 : Nat) : Int) by omega), decide_eq_true (show ((k + 1 : Nat) : Int) ≤ ((x2.length : Nat) : Int) by omega)]; rfl
        have s2 : (decide ((0 : Int) ≤ (i : Int)) && decide ((i : Int) ≤ ((k + 1 : Nat) : Int))) = true := by rw [decide_eq_true (show (0 : Int) ≤ (i : Int) by omega), decide_eq_true (show (i : Int) ≤ ((k + 1 : Nat) : Int) by omega)]; rfl
        have s3 : decide (((x2.drop i).take (k + 1 - i)).length ≤ 4294967296) = true := decide_eq_true (by rw [List.length_take, List.length_drop]; omega)
        have gk := gd k hk
        have gi := gd i hi
        simp only [both_self, lt_nat hk, inB_nat hk, inB_nat hi, k1, Int.toNat_natCast, cond_true, gk, gi, s1, s2, s3, Option.bind_some, fp, f0]
        unfold gainO
        rw [hbef]
        by_cases h1 : k + 1 < x2.length
        · have gk1 := gd (k + 1) h1
          simp only [lt_nat h1, inB_nat h1, gk1, cond_true, decide_eq_true h1, fp, f0]
          rw [wrap64 (n := _ + _) (by have a1 := db x1 (ptO x0 x2 k) hg.p (pin k); have a2 := db x1 (ptO x0 x2 i) hg.p (pin i); have a3 := db (ptO x0 x2 i) (ptO x0 x2 (k + 1)) (pin i) (pin (k + 1)); have a4 := db (ptO x0 x2 k) (ptO x0 x2 (k + 1)) (pin k) (pin (k + 1)); omega) (by have a1 := db x1 (ptO x0 x2 k) hg.p (pin k); have a2 := db x1 (ptO x0 x2 i) hg.p (pin i); have a3 := db (ptO x0 x2 i) (ptO x0 x2 (k + 1)) (pin i) (pin (k + 1)); have a4 := db (ptO x0 x2 k) (ptO x0 x2 (k + 1)) (pin k) (pin (k + 1)); omega), wrap64 (n := _ + _) (by have a1 := db x1 (ptO x0 x2 k) hg.p (pin k); have a2 := db x1 (ptO x0 x2 i) hg.p (pin i); have a3 := db (ptO x0 x2 i) (ptO x0 x2 (k + 1)) (pin i) (pin (k + 1)); have a4 := db (ptO x0 x2 k) (ptO x0 x2 (k + 1)) (pin k) (pin (k + 1)); omega) (by have a1 := db x1 (ptO x0 x2 k) hg.p (pin k); have a2 := db x1 (ptO x0 x2 i) hg.p (pin i); have a3 := db (ptO x0 x2 i) (ptO x0 x2 (k + 1)) (pin i) (pin (k + 1)); have a4 := db (ptO x0 x2 k) (ptO x0 x2 (k + 1)) (pin k) (pin (k + 1)); omega)]
          cases decide (dstZ x1 (ptO x0 x2 k) + dstZ (ptO x0 x2 i) (ptO x0 x2 (k + 1)) < dstZ x1 (ptO x0 x2 i) + dstZ (ptO x0 x2 k) (ptO x0 x2 (k + 1))) <;> rfl
        · have h2 : decide (((k + 1 : Nat) : Int) < ((x2.length : Nat) : Int)) = false := decide_eq_false (by omega)
          simp only [h2, decide_eq_false h1, cond_false, fp, f0]
          cases decide (dstZ x1 (ptO x0 x2 k) < dstZ x1 (ptO x0 x2 i)) <;> rfl
    · have hbef : befO x0 x1 x2 i = ptO x0 x2 (i - 1) := by unfold befO; rw [if_neg hz]
      have z1 : decide ((0 : Int) < (i : Int)) = true := decide_eq_true (by omega)
      have z2 : wrapI .i64 ((i : Int) - 1) = ((i - 1 : Nat) : Int) := (wrap64 (by omega) (by omega)).trans (by omega)
      have gp := gd (i - 1) (by omega)
      simp only [lt_nat hi, z1, z2, i1, inB_nat (show i - 1 < x2.length by omega), Int.toNat_natCast, gp, cond_true]
      refine (loop_findK (fun k => ((k, ()), ())) (gainO x0 x1 x2 i) (fun k => some ((true, ()), ((), (), turnO x2 i k, ()))) (rec1 ((((i + 1 : Nat) : Int), ()), ())) x2.length (i + 1) (fun k hk0 hk rec2 => ?_) (fun rec2 => ?_) (x2.length - (i + 1)) (i + 1) (x2.length + 1) (Nat.le_refl _) (by omega) (by omega)).trans ?_
      rotate_left
      · simp only [lt_self, cond_false]
      · cases findK (gainO x0 x1 x2 i) (x2.length - (i + 1)) (i + 1) <;> rfl
      · have k1 : wrapI .i64 (((k : Nat) : Int) + 1) = ((k + 1 : Nat) : Int) := (wrap64 (by omega) (by omega)).trans (by omega)
        have s1 : (decide ((0 : Int) ≤ ((k + 1 : Nat) : Int)) && decide (((k + 1 : Nat) : Int) ≤ ((x2.length : Nat) : Int))) = true := by rw [decide_eq_true (show (0 : Int) ≤ ((k + 1 : Nat) : Int) by omega), decide_eq_true (show ((k + 1 : Nat) : Int) ≤ ((x2.length : Nat) : Int) by omega)]; rfl
        have s2 : (decide ((0 : Int) ≤ (i : Int)) && decide ((i : Int) ≤ ((k + 1 : Nat) : Int))) = true := by rw [decide_eq_true (show (0 : Int) ≤ (i : Int) by omega), decide_eq_true (show (i : Int) ≤ ((k + 1 : Nat) : Int) by omega)]; rfl
        have s3 : decide (((x2.drop i).take (k + 1 - i)).length ≤ 4294967296) = true := decide_eq_true (by rw [List.length_take, List.length_drop]; omega)
        have gk := gd k hk
        have gi := gd i hi
        simp only [both_self, lt_nat hk, inB_nat hk, inB_nat hi, k1, Int.toNat_natCast, cond_true, gk, gi, s1, s2, s3, Option.bind_some, fp]
        unfold gainO
        rw [hbef]
        by_cases h1 : k + 1 < x2.length
        · have gk1 := gd (k + 1) h1
          simp only [lt_nat h1, inB_nat h1, gk1, cond_true, decide_eq_true h1, fp]
          rw [wrap64 (n := _ + _) (by have a1 := db (ptO x0 x2 (i - 1)) (ptO x0 x2 k) (pin (i - 1)) (pin k); have a2 := db (ptO x0 x2 (i - 1)) (ptO x0 x2 i) (pin (i - 1)) (pin i); have a3 := db (ptO x0 x2 i) (ptO x0 x2 (k + 1)) (pin i) (pin (k + 1)); have a4 := db (ptO x0 x2 k) (ptO x0 x2 (k + 1)) (pin k) (pin (k + 1)); omega) (by have a1 := db (ptO x0 x2 (i - 1)) (ptO x0 x2 k) (pin (i - 1)) (pin k); have a2 := db (ptO x0 x2 (i - 1)) (ptO x0 x2 i) (pin (i - 1)) (pin i); have a3 := db (ptO x0 x2 i) (ptO x0 x2 (k + 1)) (pin i) (pin (k + 1)); have a4 := db (ptO x0 x2 k) (ptO x0 x2 (k + 1)) (pin k) (pin (k + 1)); omega), wrap64 (n := _ + _) (by have a1 := db (ptO x0 x2 (i - 1)) (ptO x0 x2 k) (pin (i - 1)) (pin k); have a2 := db (ptO x0 x2 (i - 1)) (ptO x0 x2 i) (pin (i - 1)) (pin i); have a3 := db (ptO x0 x2 i) (ptO x0 x2 (k + 1)) (pin i) (pin (k + 1)); have a4 := db (ptO x0 x2 k) (ptO x0 x2 (k + 1)) (pin k) (pin (k + 1)); omega) (by have a1 := db (ptO x0 x2 (i - 1)) (ptO x0 x2 k) (pin (i - 1)) (pin k); have a2 := db (ptO x0 x2 (i - 1)) (ptO x0 x2 i) (pin (i - 1)) (pin i); have a3 := db (ptO x0 x2 i) (ptO x0 x2 (k + 1)) (pin i) (pin (k + 1)); have a4 := db (ptO x0 x2 k) (ptO x0 x2 (k + 1)) (pin k) (pin (k + 1)); omega)]
          cases decide (dstZ (ptO x0 x2 (i - 1)) (ptO x0 x2 k) + dstZ (ptO x0 x2 i) (ptO x0 x2 (k + 1)) < dstZ (ptO x0 x2 (i - 1)) (ptO x0 x2 i) + dstZ (ptO x0 x2 k) (ptO x0 x2 (k + 1))) <;> rfl
        · have h2 : decide (((k + 1 : Nat) : Int) < ((x2.length : Nat) : Int)) = false := decide_eq_false (by omega)
          simp only [h2, decide_eq_false h1, cond_false, fp]
          cases decide (dstZ (ptO x0 x2 (i - 1)) (ptO x0 x2 k) < dstZ (ptO x0 x2 (i - 1)) (ptO x0 x2 i)) <;> rfl
  · unfold placeT
    cases findI (fun i => findK (gainO x0 x1 x2 i) (x2.length - (i + 1)) (i + 1)) x2.length 0 <;> rfl⟩
noncomputable def E_drill_turn_ios : Entry Try.prog := Entry.of tok T_drill_turn_ios I_drill_turn_ios it_drill_turn_ios (fun (x0, x1, x2, ()) => S_turnO x0 x1 x2) (fun (x0, x1, x2, ()) r hok h => ok_drill_turn_ios x0 x1 x2 hok r h)

end Go.Proofs.Ytlibmodfpkhdpaa
namespace Go.Proofs.Ytlibmodfpkhdpaa
open Go Go.VM
/-! ### etchhouse.drill.Better -/
noncomputable def I_drill_Better : Inst := ⟨23, Try.f23, .two (.reg []) (.two (.two (.reg [(2, 0)]) (.two (.reg []) (.two (.two (.reg []) (.leaf)) (.leaf)))) (.two (.reg [(2, 1)]) (.two (.two (.reg []) (.one (.loop ⟨[(8, .pv i)], [(7, ⟨(.own .flat), (.sl i), false, false⟩)], [0, 3, 7], [3]⟩ (.two (.two (.reg [(6, 2)]) (.two (.leaf) (.leaf))) (.two (.one (.leaf)) (.reg [])))))) (.two (.reg []) (.leaf))))), (.cons (.pv (.sl (.pair i (.pair i .unit)))) (.cons (.pv (.pair i (.pair i .unit))) .nil)), (.cons (.own .flat) (.sl i) (.cons .flat i .nil))⟩
theorem it_drill_Better : InTab Try.prog I_drill_Better := ⟨Try.func23, by kernel_rfl, rfl⟩
noncomputable def T_drill_Better : Nat → Entry Try.prog := nth (Entry.no Try.f0) [E_drill_checkPoints, E_drill_greedy, E_drill_turn_ios]
noncomputable def B_drill_Better (n : Nat) (x0 : List (Int × (Int × Unit))) (x1 : (Int × (Int × Unit))) : Option (((List Int × (Int × Unit)) × (Unit × (Unit × Unit)))) :=
  (bif (!(decide ((S_chk x0 x1 200 = 0)))) then
    some (([], (S_chk x0 x1 200, ())), ((), ((), ())))
  else
    ((S_greedyP x0 x1).bind fun ((r1aa, ()), ((), ((), ()))) =>
    loopN (fun rec2 => fun
    | ((v2aa, ()), (v2ba, ())) =>
      (bif decide ((v2aa < 5000)) then
        ((S_turnO x0 x1 v2ba).bind fun ((r3aa, ()), ((), ((), (r3bbba, ())))) =>
        (bif r3aa then
          rec2 ((wrapI .i64 (v2aa + 1), ()), (r3bbba, ()))
        else
          some ((r3bbba, (0, ())), ((), ((), ())))))
      else
        some ((v2ba, (0, ())), ((), ((), ())))))
    n ((0, ()), (r1aa, ()))))
theorem B_drill_Better_eq (n : Nat) (x0 : List (Int × (Int × Unit))) (x1 : (Int × (Int × Unit))) : bodyE ty T_drill_Better n I_drill_Better (x0, (x1, ())) = B_drill_Better n x0 x1 := by kernel_rfl

end Go.Proofs.Ytlibmodfpkhdpaa
namespace Go.Proofs.Ytlibmodfpkhdpaa
open Go Go.VM
theorem isPt_inR {p : Pt} (h : S_isPt p = true) : inR p := by
  obtain ⟨a, b, _⟩ := p
  simp only [S_isPt, S_within, Bool.and_eq_true, decide_eq_true_eq] at h
  exact ⟨h.1.1, h.1.2, h.2.1, h.2.2⟩
theorem chk_inR {l : List Pt} {p : Pt} {m : Int} (h : S_chk l p m = 0) : inR p ∧ (∀ a, a ∈ l → inR a) ∧ (l.length : Int) ≤ m := by
  unfold S_chk at h
  cases hd : decide (m < (l.length : Int)) with
  | true => rw [hd] at h; cases h
  | false =>
    rw [hd, cond_false] at h
    cases hc : (S_isPt p && l.all S_isPt) with
    | false => rw [hc] at h; cases h
    | true =>
      simp only [Bool.and_eq_true, List.all_eq_true] at hc
      simp only [decide_eq_false_iff_not] at hd
      exact ⟨isPt_inR hc.1, fun a ha => isPt_inR (hc.2 a ha), by omega⟩
def S_betP (x0 : List Pt) (x1 : Pt) : List Int := bif decide (S_chk x0 x1 200 = 0) then betO x0 x1 else []
set_option maxRecDepth 100000 in
theorem ok_drill_Better (x0 : List Pt) (x1 : Pt) (hok : OkA I_drill_Better.args (x0, x1, ())) : ∃ n, bodyE ty T_drill_Better n I_drill_Better (x0, x1, ()) = some ((S_betP x0 x1, S_chk x0 x1 200, ()), ((), (), ())) := by
  obtain ⟨N, hN⟩ : ∃ N, N = maxTurns + 1 := ⟨_, rfl⟩
  refine ⟨N, ?_⟩
  rw [B_drill_Better_eq]
  unfold B_drill_Better S_betP
  cases hc : decide (S_chk x0 x1 200 = 0) with
  | false => rfl
  | true =>
    have hc := of_decide_eq_true hc
    obtain ⟨hp, hl, hn⟩ := chk_inR hc
    obtain ⟨hg, ho⟩ := grd_is hl hp (d := S_far) fun a b ha hb => far_dstZ ha hb
    have hG := ho.good hl hp (by omega)
    have g1 : S_greedyP x0 x1 = some ((grdO x0 x1, ()), ((), ((), ()))) := by
      unfold S_greedyP
      rw [decide_eq_true (show x0.length ≤ 4294967296 by omega), cond_true, hg]; rfl
    rw [g1]
    simp only [Bool.not_true, cond_false, cond_true, Option.bind_some, hc]
    obtain ⟨c, hcc⟩ : ∃ c, c = maxTurns := ⟨_, rfl⟩
    have hc5 : c = 5000 := hcc.trans (by unfold maxTurns; rfl)
    unfold betO
    rw [← hcc]
    refine loop_meas (fun x => ∃ (i : Nat) (o : List Int), i ≤ c ∧ GoodT x0 x1 o ∧ betN x0 x1 (c - i) o = betN x0 x1 c (grdO x0 x1) ∧ x = (((i : Int), ()), (o, ()))) (fun x => c - x.1.1.toNat) _ ?_ N _ ⟨0, _, Nat.zero_le _, hG, rfl, rfl⟩ (by show c - (0 : Int).toNat < _; omega)
    rintro _ ⟨i, o, h1, h2, h3, rfl⟩
    by_cases hi : i < c
    · have d1 : decide ((i : Int) < 5000) = true := decide_eq_true (by omega)
      have i1 : wrapI .i64 (((i : Nat) : Int) + 1) = ((i + 1 : Nat) : Int) := (wrap64 (by omega) (by omega)).trans (by omega)
      rw [show c - i = (c - (i + 1)) + 1 by omega, betN] at h3
      cases ht : turnR x0 x1 o with
      | none =>
        left
        intro rec
        have e : S_turnO x0 x1 o = some ((false, ()), ((), ((), (o, ())))) := by unfold S_turnO; rw [if_pos h2, ht]
        rw [ht] at h3
        simp only [d1, e, cond_true, cond_false, Option.bind_some]
        rw [← h3]
      | some o' =>
        right
        have e : S_turnO x0 x1 o = some ((true, ()), ((), ((), (o', ())))) := by unfold S_turnO; rw [if_pos h2, ht]
        rw [ht] at h3
        refine ⟨((((i + 1 : Nat) : Int), ()), (o', ())), ⟨i + 1, o', by omega, h2.perm (turnR_is ht).1, h3, rfl⟩, ?_, fun rec => ?_⟩
        · show c - (((i + 1 : Nat) : Int)).toNat < c - ((i : Int)).toNat
          rw [Int.toNat_natCast, Int.toNat_natCast]; omega
        · simp only [d1, e, i1, cond_true, Option.bind_some]
    · left
      intro rec
      obtain rfl : i = c := by omega
      have d1 : decide ((i : Int) < 5000) = false := decide_eq_false (by omega)
      rw [Nat.sub_self, betN] at h3
      simp only [d1, cond_false]
      rw [← h3]
noncomputable def E_drill_Better : Entry Try.prog := Entry.of tok T_drill_Better I_drill_Better it_drill_Better (fun (x0, x1, ()) => some ((S_betP x0 x1, S_chk x0 x1 200, ()), ((), (), ()))) (fun (x0, x1, ()) r hok h => by cases h; exact ok_drill_Better x0 x1 hok)

end Go.Proofs.Ytlibmodfpkhdpaa
namespace Go.Proofs.Ytlibmodfpkhdpaa
open Go Go.VM
/-! ### etchhouse.drill.way -/
noncomputable def I_drill_way : Inst := ⟨27, Try.f27, .two (.reg []) (.two (.reg []) (.two (.two (.reg []) (.one (.loop ⟨[(5, .pv i), (10, .pv i)], [(3, ⟨.flat, (.pair i (.pair i .unit)), true, false⟩)], [3, 8, 9], []⟩ (.two (.reg []) (.two (.two (.leaf) (.leaf)) (.two (.one (.two (.reg []) (.two (.reg [(3, 0)]) (.reg [])))) (.reg []))))))) (.two (.reg []) (.leaf)))), (.cons (.pv (.sl (.pair i (.pair i .unit)))) (.cons (.pv (.pair i (.pair i .unit))) .nil)), (.cons .flat i .nil)⟩
theorem it_drill_way : InTab Try.prog I_drill_way := ⟨Try.func27, by kernel_rfl, rfl⟩
noncomputable def T_drill_way : Nat → Entry Try.prog := nth (Entry.no Try.f0) [E_drill_far]
noncomputable def B_drill_way (n : Nat) (x0 : List (Int × (Int × Unit))) (x1 : (Int × (Int × Unit))) : Option (((Int × Unit) × (Unit × (Unit × Unit)))) :=
  loopN (fun rec1 => fun
  | ((v1aa, (v1aba, ())), ((v1baa, (v1baba, ())), ())) =>
    (bif decide ((v1aba < ((x0.length : Nat) : Int))) then
      (bif inB v1aba x0.length then
        rec1 ((wrapI .i64 (v1aa + S_far (v1baa, (v1baba, ())) (x0.getD v1aba.toNat (0, (0, ())))), (wrapI .i64 (v1aba + 1), ())), (x0.getD v1aba.toNat (0, (0, ())), ()))
      else
        none)
    else
      some ((v1aa, ()), ((), ((), ())))))
  n ((0, (0, ())), (x1, ()))
theorem B_drill_way_eq (n : Nat) (x0 : List (Int × (Int × Unit))) (x1 : (Int × (Int × Unit))) : bodyE ty T_drill_way n I_drill_way (x0, (x1, ())) = B_drill_way n x0 x1 := by kernel_rfl

end Go.Proofs.Ytlibmodfpkhdpaa
namespace Go.Proofs.Ytlibmodfpkhdpaa
open Go Go.VM
theorem ok_drill_way (x0 : List Pt) (x1 : Pt) (hok : OkA I_drill_way.args (x0, x1, ())) : ∃ n, bodyE ty T_drill_way n I_drill_way (x0, x1, ()) = some ((S_way S_far x0 x1, ()), ((), (), ())) := ⟨x0.length + 1, by
  obtain ⟨⟨hl, _⟩, _⟩ := hok
  rw [B_drill_way_eq]
  unfold B_drill_way
  refine (loop_fold (l := x0) (fun i (s : Int × Pt) => ((s.1, (i, ())), (s.2, ()))) (fun _ _ => True) (wayF S_far) (fun s => some ((s.1, ()), ((), (), ()))) (fun i h s _ => ?_) (fun s _ rec => ?_) (Nat.lt_succ_self _) (s := (0, x1)) trivial)
  · obtain ⟨s, a, b, ⟨⟩⟩ := s
    exact ⟨trivial, fun rec => by simp only [lt_nat h, inB_nat h, getD_lt h, succ64 h hl, cond_true]; rfl⟩
  · obtain ⟨s, a, b, ⟨⟩⟩ := s
    simp only [lt_self, cond_false]⟩
noncomputable def E_drill_way : Entry Try.prog := Entry.of tok T_drill_way I_drill_way it_drill_way (fun (x0, x1, ()) => some ((S_way S_far x0 x1, ()), ((), (), ()))) (fun (x0, x1, ()) r hok h => by cases h; exact ok_drill_way x0 x1 hok)

end Go.Proofs.Ytlibmodfpkhdpaa
namespace Go.Proofs.Ytlibmodfpkhdpaa
open Go Go.VM
/-! ### etchhouse.drill.Way -/
noncomputable def I_drill_Way : Inst := ⟨9, Try.f9, .two (.reg []) (.two (.two (.reg [(2, 0)]) (.two (.reg []) (.two (.two (.reg []) (.leaf)) (.leaf)))) (.two (.reg [(2, 1)]) (.leaf))), (.cons (.pv (.sl (.pair i (.pair i .unit)))) (.cons (.pv (.pair i (.pair i .unit))) .nil)), (.cons .flat i (.cons .flat i .nil))⟩
theorem it_drill_Way : InTab Try.prog I_drill_Way := ⟨Try.func9, by kernel_rfl, rfl⟩
noncomputable def T_drill_Way : Nat → Entry Try.prog := nth (Entry.no Try.f0) [E_drill_checkPoints, E_drill_way]
noncomputable def B_drill_Way (x0 : List (Int × (Int × Unit))) (x1 : (Int × (Int × Unit))) : Option (((Int × (Int × Unit)) × (Unit × (Unit × Unit)))) :=
  (bif (!(decide ((S_chk x0 x1 2000 = 0)))) then
    some ((0, (S_chk x0 x1 2000, ())), ((), ((), ())))
  else
    some ((S_way S_far x0 x1, (0, ())), ((), ((), ()))))
theorem B_drill_Way_eq (n : Nat) (x0 : List (Int × (Int × Unit))) (x1 : (Int × (Int × Unit))) : bodyE ty T_drill_Way n I_drill_Way (x0, (x1, ())) = B_drill_Way x0 x1 := by kernel_rfl

end Go.Proofs.Ytlibmodfpkhdpaa
namespace Go.Proofs.Ytlibmodfpkhdpaa
open Go Go.VM
def S_WayP (x0 : List Pt) (x1 : Pt) : Int × Int := bif decide (S_chk x0 x1 2000 = 0) then (S_way S_far x0 x1, 0) else (0, S_chk x0 x1 2000)
theorem ok_drill_Way (x0 : List Pt) (x1 : Pt) (hok : OkA I_drill_Way.args (x0, x1, ())) : ∃ n, bodyE ty T_drill_Way n I_drill_Way (x0, x1, ()) = some (((S_WayP x0 x1).1, (S_WayP x0 x1).2, ()), ((), (), ())) := ⟨0, by
  rw [B_drill_Way_eq]
  unfold B_drill_Way S_WayP
  cases decide (S_chk x0 x1 2000 = 0) <;> rfl⟩
noncomputable def E_drill_Way : Entry Try.prog := Entry.of tok T_drill_Way I_drill_Way it_drill_Way (fun (x0, x1, ()) => some (((S_WayP x0 x1).1, (S_WayP x0 x1).2, ()), ((), (), ()))) (fun (x0, x1, ()) r hok h => by cases h; exact ok_drill_Way x0 x1 hok)

end Go.Proofs.Ytlibmodfpkhdpaa
namespace Go.Proofs.Ytlibmodfpkhdpaa
open Go Go.VM
/-! ### etchhouse.etchhouselaw8.awake -/
noncomputable def I_etchhouselaw8_awake : Inst := ⟨14, Try.f14, .two (.reg []) (.two (.reg [(5, 0)]) (.two (.reg []) (.leaf))), .nil, (.cons .flat .bool .nil)⟩
theorem it_etchhouselaw8_awake : InTab Try.prog I_etchhouselaw8_awake := ⟨Try.func14, by kernel_rfl, rfl⟩
noncomputable def T_etchhouselaw8_awake : Nat → Entry Try.prog := nth (Entry.no Try.f0) [E_drill_Way]
noncomputable def B_etchhouselaw8_awake  : Option (((Bool × Unit) × Unit)) :=
  some ((true, ()), ())
theorem B_etchhouselaw8_awake_eq (n : Nat)  : bodyE ty T_etchhouselaw8_awake n I_etchhouselaw8_awake () = B_etchhouselaw8_awake  := by kernel_rfl

end Go.Proofs.Ytlibmodfpkhdpaa
namespace Go.Proofs.Ytlibmodfpkhdpaa
open Go Go.VM
def S_etchhouselaw8_awake  : Bool := true
theorem ok_etchhouselaw8_awake  (hok : OkA I_etchhouselaw8_awake.args ()) : ∃ n, bodyE ty T_etchhouselaw8_awake n I_etchhouselaw8_awake () = some ((S_etchhouselaw8_awake, ()), ()) := ⟨0, by rw [B_etchhouselaw8_awake_eq]; rfl⟩
noncomputable def E_etchhouselaw8_awake : Entry Try.prog := Entry.of tok T_etchhouselaw8_awake I_etchhouselaw8_awake it_etchhouselaw8_awake (fun () => some ((S_etchhouselaw8_awake, ()), ())) (fun () r hok h => by cases h; exact ok_etchhouselaw8_awake  hok)

end Go.Proofs.Ytlibmodfpkhdpaa
namespace Go.Proofs.Ytlibmodfpkhdpaa
open Go Go.VM
/-! ### etchhouse.etchhouseref8.within -/
noncomputable def I_etchhouseref8_within : Inst := ⟨37, Try.f37, .two (.reg []) (.two (.reg []) (.leaf)), (.cons (.pv i) (.cons (.pv i) (.cons (.pv i) .nil))), (.cons .flat .bool .nil)⟩
theorem it_etchhouseref8_within : InTab Try.prog I_etchhouseref8_within := ⟨Try.func37, by kernel_rfl, rfl⟩
noncomputable def T_etchhouseref8_within : Nat → Entry Try.prog := nth (Entry.no Try.f0) []
noncomputable def B_etchhouseref8_within (x0 : Int) (x1 : Int) (x2 : Int) : Option (((Bool × Unit) × (Unit × (Unit × (Unit × Unit))))) :=
  (bif decide ((x1 ≤ x0)) then
    some ((decide ((x0 ≤ x2)), ()), ((), ((), ((), ()))))
  else
    some ((false, ()), ((), ((), ((), ())))))
theorem B_etchhouseref8_within_eq (n : Nat) (x0 : Int) (x1 : Int) (x2 : Int) : bodyE ty T_etchhouseref8_within n I_etchhouseref8_within (x0, (x1, (x2, ()))) = B_etchhouseref8_within x0 x1 x2 := by kernel_rfl

end Go.Proofs.Ytlibmodfpkhdpaa
namespace Go.Proofs.Ytlibmodfpkhdpaa
open Go Go.VM
theorem ok_etchhouseref8_within (x0 x1 x2 : Int) (hok : OkA I_etchhouseref8_within.args (x0, x1, x2, ())) : ∃ n, bodyE ty T_etchhouseref8_within n I_etchhouseref8_within (x0, x1, x2, ()) = some ((S_within x0 x1 x2, ()), ((), (), (), ())) := ⟨0, by
  rw [B_etchhouseref8_within_eq]; unfold B_etchhouseref8_within S_within; cases decide (x1 ≤ x0) <;> rfl⟩
noncomputable def E_etchhouseref8_within : Entry Try.prog := Entry.of tok T_etchhouseref8_within I_etchhouseref8_within it_etchhouseref8_within (fun (x0, x1, x2, ()) => some ((S_within x0 x1 x2, ()), ((), (), (), ()))) (fun (x0, x1, x2, ()) r hok h => by cases h; exact ok_etchhouseref8_within x0 x1 x2 hok)

end Go.Proofs.Ytlibmodfpkhdpaa
namespace Go.Proofs.Ytlibmodfpkhdpaa
open Go Go.VM
/-! ### etchhouse.etchhouseref8.IsOrder -/
noncomputable def I_etchhouseref8_IsOrder : Inst := ⟨43, Try.f43, .two (.reg []) (.two (.reg []) (.two (.two (.reg []) (.one (.loop ⟨[(12, .pv i)], [(5, ⟨(.own .flat), (.sl .bool), false, false⟩)], [0, 1, 5, 10, 11], []⟩ (.two (.reg []) (.two (.two (.leaf) (.leaf)) (.two (.one (.two (.reg []) (.two (.two (.reg [(3, 0)]) (.two (.two (.reg []) (.leaf)) (.leaf))) (.reg [])))) (.reg []))))))) (.two (.reg []) (.leaf)))), (.cons (.pv (.sl i)) (.cons (.pv i) .nil)), (.cons .flat .bool .nil)⟩
theorem it_etchhouseref8_IsOrder : InTab Try.prog I_etchhouseref8_IsOrder := ⟨Try.func43, by kernel_rfl, rfl⟩
noncomputable def T_etchhouseref8_IsOrder : Nat → Entry Try.prog := nth (Entry.no Try.f0) [E_etchhouseref8_within]
noncomputable def B_etchhouseref8_IsOrder (n : Nat) (x0 : List Int) (x1 : Int) : Option (((Bool × Unit) × (Unit × (Unit × Unit)))) :=
  (bif ((decide ((0 ≤ x1)) && decide ((x1 ≤ x1))) && decide ((x1 ≤ 4294967296))) then
    loopN (fun rec1 => fun
    | ((v1aa, ()), (v1ba, ())) =>
      (bif decide ((v1aa < ((x0.length : Nat) : Int))) then
        (bif inB v1aa x0.length then
          (bif (!(S_within (x0.getD v1aa.toNat (0 : Int)) 0 (wrapI .i64 (x1 - 1)))) then
            some ((false, ()), ((), ((), ())))
          else
            (bif inB (x0.getD v1aa.toNat (0 : Int)) v1ba.length then
              (bif v1ba.getD ((x0.getD v1aa.toNat (0 : Int)).toNat) false then
                some ((false, ()), ((), ((), ())))
              else
                (bif inB (x0.getD v1aa.toNat (0 : Int)) v1ba.length then
                  rec1 ((wrapI .i64 (v1aa + 1), ()), (v1ba.set ((x0.getD v1aa.toNat (0 : Int)).toNat) true, ()))
                else
                  none))
            else
              none))
        else
          none)
      else
        some ((decide ((((x0.length : Nat) : Int) = x1)), ()), ((), ((), ())))))
    n ((0, ()), (List.replicate (α := Bool) x1.toNat false, ()))
  else
    none)
theorem B_etchhouseref8_IsOrder_eq (n : Nat) (x0 : List Int) (x1 : Int) : bodyE ty T_etchhouseref8_IsOrder n I_etchhouseref8_IsOrder (x0, (x1, ())) = B_etchhouseref8_IsOrder n x0 x1 := by kernel_rfl

end Go.Proofs.Ytlibmodfpkhdpaa
namespace Go.Proofs.Ytlibmodfpkhdpaa
open Go Go.VM
noncomputable def S_ordO (x0 : List Int) (x1 : Int) : Option ((Bool × Unit) × Unit × Unit × Unit) := open Classical in if x1 ≤ 2000 ∧ 0 ≤ x1 ∧ IsOrd x1.toNat x0 then some ((true, ()), ((), (), ())) else none
theorem ok_etchhouseref8_IsOrder (x0 : List Int) (x1 : Int) (hok : OkA I_etchhouseref8_IsOrder.args (x0, x1, ())) (r) (h : S_ordO x0 x1 = some r) : ∃ n, bodyE ty T_etchhouseref8_IsOrder n I_etchhouseref8_IsOrder (x0, x1, ()) = some r := ⟨x0.length + 1, by
  rw [B_etchhouseref8_IsOrder_eq, ← h]
  by_cases hg : x1 ≤ 2000 ∧ 0 ≤ x1 ∧ IsOrd x1.toNat x0
  case neg => unfold S_ordO at h; rw [if_neg hg] at h; cases h
  have hS : S_ordO x0 x1 = some ((true, ()), ((), (), ())) := by unfold S_ordO; rw [if_pos hg]
  rw [hS]
  obtain ⟨h2, h0, hO⟩ := hg
  obtain ⟨n, rfl⟩ : ∃ n : Nat, x1 = (n : Int) := ⟨x1.toNat, by omega⟩
  rw [Int.toNat_natCast] at hO
  have hlen := hO.len
  unfold B_etchhouseref8_IsOrder
  rw [decide_eq_true (show (0 : Int) ≤ (n : Int) by omega), decide_eq_true (show (n : Int) ≤ (n : Int) by omega), decide_eq_true (show (n : Int) ≤ 4294967296 by omega)]
  simp only [Bool.and_self, cond_true, Int.toNat_natCast]
  refine loop_meas (fun x => ∃ (i : Nat) (u : List Bool), i ≤ x0.length ∧ u.length = n ∧ (∀ k : Nat, u.getD k false = true → (k : Int) ∈ x0.take i) ∧ x = (((i : Int), ()), (u, ()))) (fun x => x0.length - x.1.1.toNat) _ ?_ (x0.length + 1) _ ⟨0, _, Nat.zero_le _, by simp, fun k hk => ?_, rfl⟩ (by show x0.length - (0 : Int).toNat < _; omega)
  · rintro _ ⟨i, u, h1, h2, h3, rfl⟩
    by_cases hi : i < x0.length
    · right
      obtain ⟨a1, a2⟩ := hO.at_ _ (List.getElem_mem hi)
      obtain ⟨k, hk⟩ : ∃ k : Nat, x0[i] = (k : Int) := ⟨x0[i].toNat, by omega⟩
      have hnot : u.getD k false = false := by
        cases hc : u.getD k false with
        | false => rfl
        | true =>
          exfalso
          have hm := h3 k hc
          obtain ⟨j, hj, e⟩ := List.mem_iff_getElem.1 hm
          rw [List.length_take] at hj
          rw [List.getElem_take] at e
          have := (List.getElem_inj hO.nd (h₀ := by omega) (h₁ := hi)).1 (e.trans hk.symm)
          omega
      have i1 : wrapI .i64 (((i : Nat) : Int) + 1) = ((i + 1 : Nat) : Int) := (wrap64 (by omega) (by omega)).trans (by omega)
      have w1 : wrapI .i64 ((n : Int) - 1) = (n : Int) - 1 := wrap64 (by omega) (by omega)
      have w2 : S_within (k : Int) 0 ((n : Int) - 1) = true := by
        simp only [S_within, Bool.and_eq_true, decide_eq_true_eq]; omega
      refine ⟨((((i + 1 : Nat) : Int), ()), (u.set k true, ())), ⟨i + 1, _, hi, by rw [List.length_set]; exact h2, fun m hm => ?_, rfl⟩, ?_, fun rec => ?_⟩
      · rw [getD_set (by omega)] at hm
        rw [List.take_add_one, List.getElem?_eq_getElem hi, Option.toList_some, List.mem_append, List.mem_singleton, hk]
        by_cases e : m = k
        · exact .inr (by omega)
        · rw [if_neg e] at hm; exact .inl (h3 m hm)
      · show x0.length - (((i + 1 : Nat) : Int)).toNat < x0.length - ((i : Int)).toNat
        rw [Int.toNat_natCast, Int.toNat_natCast]; omega
      · simp only [lt_nat hi, inB_nat hi, getD_at hi, hk, i1, w1, w2, Int.toNat_natCast, inB_nat (show k < u.length by omega), hnot, cond_true, cond_false, Bool.not_true]
    · left
      intro rec
      obtain rfl : i = x0.length := by omega
      have d1 : decide (((x0.length : Nat) : Int) = (n : Int)) = true := decide_eq_true (by omega)
      simp only [lt_self, cond_false, d1]
  · rw [List.getD_eq_getElem?_getD, List.getElem?_replicate] at hk
    by_cases e : k < n <;> simp [e] at hk⟩
noncomputable def E_etchhouseref8_IsOrder : Entry Try.prog := Entry.of tok T_etchhouseref8_IsOrder I_etchhouseref8_IsOrder it_etchhouseref8_IsOrder (fun (x0, x1, ()) => S_ordO x0 x1) (fun (x0, x1, ()) r hok h => ok_etchhouseref8_IsOrder x0 x1 hok r h)

end Go.Proofs.Ytlibmodfpkhdpaa
namespace Go.Proofs.Ytlibmodfpkhdpaa
open Go Go.VM
/-! ### etchhouse.etchhouseref8.abs -/
noncomputable def I_etchhouseref8_abs : Inst := ⟨49, Try.f49, .two (.reg []) (.two (.reg []) (.leaf)), (.cons (.pv i) .nil), (.cons .flat i .nil)⟩
theorem it_etchhouseref8_abs : InTab Try.prog I_etchhouseref8_abs := ⟨Try.func49, by kernel_rfl, rfl⟩
noncomputable def T_etchhouseref8_abs : Nat → Entry Try.prog := nth (Entry.no Try.f0) []
noncomputable def B_etchhouseref8_abs (x0 : Int) : Option (((Int × Unit) × (Unit × Unit))) :=
  some (((bif decide ((x0 < wrapI .i64 (0 - x0))) then wrapI .i64 (0 - x0) else x0), ()), ((), ()))
theorem B_etchhouseref8_abs_eq (n : Nat) (x0 : Int) : bodyE ty T_etchhouseref8_abs n I_etchhouseref8_abs (x0, ()) = B_etchhouseref8_abs x0 := by kernel_rfl

end Go.Proofs.Ytlibmodfpkhdpaa
namespace Go.Proofs.Ytlibmodfpkhdpaa
open Go Go.VM
def S_abs (a : Int) : Int := bif decide (a < wrapI .i64 (0 - a)) then wrapI .i64 (0 - a) else a
theorem ok_etchhouseref8_abs (x0 : Int) (hok : OkA I_etchhouseref8_abs.args (x0, ())) : ∃ n, bodyE ty T_etchhouseref8_abs n I_etchhouseref8_abs (x0, ()) = some ((S_abs x0, ()), ((), ())) := ⟨0, by rw [B_etchhouseref8_abs_eq]; rfl⟩
noncomputable def E_etchhouseref8_abs : Entry Try.prog := Entry.of tok T_etchhouseref8_abs I_etchhouseref8_abs it_etchhouseref8_abs (fun (x0, ()) => some ((S_abs x0, ()), ((), ()))) (fun (x0, ()) r hok h => by cases h; exact ok_etchhouseref8_abs x0 hok)

end Go.Proofs.Ytlibmodfpkhdpaa
namespace Go.Proofs.Ytlibmodfpkhdpaa
open Go Go.VM
/-! ### etchhouse.etchhouseref8.distance -/
noncomputable def I_etchhouseref8_distance : Inst := ⟨29, Try.f29, .two (.reg []) (.two (.draw [(5, 0), (11, 0)] [0, 1, 2, 3, 4, 6, 7, 8, 9, 10, 5, 11, 12, 13] [3, 2]) (.leaf)), (.cons (.pv (.pair i (.pair i .unit))) (.cons (.pv (.pair i (.pair i .unit))) .nil)), (.cons .flat i .nil)⟩
theorem it_etchhouseref8_distance : InTab Try.prog I_etchhouseref8_distance := ⟨Try.func29, by kernel_rfl, rfl⟩
noncomputable def T_etchhouseref8_distance : Nat → Entry Try.prog := nth (Entry.no Try.f0) [E_etchhouseref8_abs]
noncomputable def B_etchhouseref8_distance (x0 : (Int × (Int × Unit))) (x1 : (Int × (Int × Unit))) : Option (((Int × Unit) × (Unit × (Unit × Unit)))) :=
  some (((bif decide ((S_abs (wrapI .i64 (x0.1 - x1.1)) < S_abs (wrapI .i64 (x0.2.1 - x1.2.1)))) then S_abs (wrapI .i64 (x0.2.1 - x1.2.1)) else S_abs (wrapI .i64 (x0.1 - x1.1))), ()), ((), ((), ())))
theorem B_etchhouseref8_distance_eq (n : Nat) (x0 : (Int × (Int × Unit))) (x1 : (Int × (Int × Unit))) : bodyE ty T_etchhouseref8_distance n I_etchhouseref8_distance (x0, (x1, ())) = B_etchhouseref8_distance x0 x1 := by kernel_rfl

end Go.Proofs.Ytlibmodfpkhdpaa
namespace Go.Proofs.Ytlibmodfpkhdpaa
open Go Go.VM
def S_dist (p q : Pt) : Int := bif decide (S_abs (wrapI .i64 (p.1 - q.1)) < S_abs (wrapI .i64 (p.2.1 - q.2.1))) then S_abs (wrapI .i64 (p.2.1 - q.2.1)) else S_abs (wrapI .i64 (p.1 - q.1))
theorem ok_etchhouseref8_distance (x0 x1 : Pt) (hok : OkA I_etchhouseref8_distance.args (x0, x1, ())) : ∃ n, bodyE ty T_etchhouseref8_distance n I_etchhouseref8_distance (x0, x1, ()) = some ((S_dist x0 x1, ()), ((), (), ())) := ⟨0, by rw [B_etchhouseref8_distance_eq]; rfl⟩
noncomputable def E_etchhouseref8_distance : Entry Try.prog := Entry.of tok T_etchhouseref8_distance I_etchhouseref8_distance it_etchhouseref8_distance (fun (x0, x1, ()) => some ((S_dist x0 x1, ()), ((), (), ()))) (fun (x0, x1, ()) r hok h => by cases h; exact ok_etchhouseref8_distance x0 x1 hok)

end Go.Proofs.Ytlibmodfpkhdpaa
namespace Go.Proofs.Ytlibmodfpkhdpaa
open Go Go.VM
/-! ### etchhouse.etchhouseref8.length -/
noncomputable def I_etchhouseref8_length : Inst := ⟨44, Try.f44, .two (.reg []) (.two (.reg []) (.two (.two (.reg []) (.one (.loop ⟨[(7, .pv i), (12, .pv i)], [(4, ⟨.flat, (.pair i (.pair i .unit)), true, false⟩)], [0, 4, 10, 11], []⟩ (.two (.reg []) (.two (.two (.leaf) (.leaf)) (.two (.one (.two (.reg []) (.two (.draw [(6, 0)] [0, 1, 2, 3, 4, 5, 6, 7, 8] [4]) (.reg [])))) (.reg []))))))) (.two (.reg []) (.leaf)))), (.cons (.pv (.sl (.pair i (.pair i .unit)))) (.cons (.pv (.pair i (.pair i .unit))) (.cons (.pv (.sl i)) .nil))), (.cons .flat i .nil)⟩
theorem it_etchhouseref8_length : InTab Try.prog I_etchhouseref8_length := ⟨Try.func44, by kernel_rfl, rfl⟩
noncomputable def T_etchhouseref8_length : Nat → Entry Try.prog := nth (Entry.no Try.f0) [E_etchhouseref8_distance]
noncomputable def B_etchhouseref8_length (n : Nat) (x0 : List (Int × (Int × Unit))) (x1 : (Int × (Int × Unit))) (x2 : List Int) : Option (((Int × Unit) × (Unit × (Unit × (Unit × Unit))))) :=
  loopN (fun rec1 => fun
  | ((v1aa, (v1aba, ())), ((v1baa, (v1baba, ())), ())) =>
    (bif decide ((v1aba < ((x2.length : Nat) : Int))) then
      (bif inB v1aba x2.length then
        (bif inB (x2.getD v1aba.toNat (0 : Int)) x0.length then
          (bif inB (x2.getD v1aba.toNat (0 : Int)) x0.length then
            rec1 ((wrapI .i64 (v1aa + S_dist (v1baa, (v1baba, ())) (x0.getD ((x2.getD v1aba.toNat (0 : Int)).toNat) (0, (0, ())))), (wrapI .i64 (v1aba + 1), ())), (x0.getD ((x2.getD v1aba.toNat (0 : Int)).toNat) (0, (0, ())), ()))
          else
            none)
        else
          none)
      else
        none)
    else
      some ((v1aa, ()), ((), ((), ((), ()))))))
  n ((0, (0, ())), (x1, ()))
theorem B_etchhouseref8_length_eq (n : Nat) (x0 : List (Int × (Int × Unit))) (x1 : (Int × (Int × Unit))) (x2 : List Int) : bodyE ty T_etchhouseref8_length n I_etchhouseref8_length (x0, (x1, (x2, ()))) = B_etchhouseref8_length n x0 x1 x2 := by kernel_rfl

end Go.Proofs.Ytlibmodfpkhdpaa
namespace Go.Proofs.Ytlibmodfpkhdpaa
open Go Go.VM
theorem abs_absZ {a b : Int} (ha : -1000000 ≤ a ∧ a ≤ 1000000) (hb : -1000000 ≤ b ∧ b ≤ 1000000) : S_abs (wrapI .i64 (a - b)) = absZ (a - b) := by
  unfold S_abs absZ
  rw [wrap64 (n := a - b) (by omega) (by omega), wrap64 (n := 0 - (a - b)) (by omega) (by omega)]
  by_cases h : a - b < 0 - (a - b)
  · rw [decide_eq_true h, cond_true, if_pos (by omega)]; omega
  · rw [decide_eq_false h, cond_false, if_neg (by omega)]
theorem dist_dstZ {p q : Pt} (hp : inR p) (hq : inR q) : S_dist p q = dstZ p q := by
  unfold S_dist dstZ maxZ
  rw [abs_absZ ⟨hp.1, hp.2.1⟩ ⟨hq.1, hq.2.1⟩, abs_absZ ⟨hp.2.2.1, hp.2.2.2⟩ ⟨hq.2.2.1, hq.2.2.2⟩]
  split
  · rename_i h; rw [decide_eq_true h]; rfl
  · rename_i h; rw [decide_eq_false h]; rfl
noncomputable def S_lenR (x0 : List Pt) (x1 : Pt) (x2 : List Int) : Option ((Int × Unit) × Unit × Unit × Unit × Unit) := open Classical in if GoodT x0 x1 x2 then some ((lenO x0 x1 x2, ()), ((), (), (), ())) else none
theorem ok_etchhouseref8_length (x0 : List Pt) (x1 : Pt) (x2 : List Int) (hok : OkA I_etchhouseref8_length.args (x0, x1, x2, ())) (r) (h : S_lenR x0 x1 x2 = some r) : ∃ n, bodyE ty T_etchhouseref8_length n I_etchhouseref8_length (x0, x1, x2, ()) = some r := ⟨x2.length + 1, by
  rw [B_etchhouseref8_length_eq, ← h]
  by_cases hg : GoodT x0 x1 x2
  case neg => unfold S_lenR at h; rw [if_neg hg] at h; cases h
  have hS : S_lenR x0 x1 x2 = some ((lenO x0 x1 x2, ()), ((), (), (), ())) := by unfold S_lenR; rw [if_pos hg]
  rw [hS]
  have hlen := hg.len
  unfold B_etchhouseref8_length
  refine loop_meas (fun x => ∃ (i : Nat) (s : Int) (p : Pt), i ≤ x2.length ∧ inR p ∧ 0 ≤ s ∧ s ≤ 2000000 * (i : Int) ∧ s + lenP dstZ p (ptsO x0 (x2.drop i)) = lenO x0 x1 x2 ∧ x = ((s, ((i : Int), ())), (p, ()))) (fun x => x2.length - x.1.2.1.toNat) _ ?_ (x2.length + 1) _ ⟨0, 0, x1, Nat.zero_le _, hg.p, Int.le_refl _, by omega, by rw [List.drop_zero, Int.zero_add]; rfl, rfl⟩ (by show x2.length - (0 : Int).toNat < _; omega)
  rintro _ ⟨i, s, ⟨a, b, ⟨⟩⟩, h1, h2, h3, h4, h5, rfl⟩
  by_cases hi : i < x2.length
  · right
    have hk := hg.at_ _ (List.getElem_mem hi)
    have hq : inR (x0.getD x2[i].toNat pt0) := getD_inR hg.pts _
    have hd := dst_bound (a, b, ()) _ h2 hq
    have hdr : x2.drop i = x2[i] :: x2.drop (i + 1) := List.drop_eq_getElem_cons hi
    have hs : S_dist (a, b, ()) (x0.getD x2[i].toNat (0, 0, ())) = dstZ (a, b, ()) (x0.getD x2[i].toNat pt0) := dist_dstZ h2 hq
    refine ⟨((s + dstZ (a, b, ()) (x0.getD x2[i].toNat pt0), (((i + 1 : Nat) : Int), ())), (x0.getD x2[i].toNat pt0, ())), ⟨i + 1, _, _, hi, hq, by omega, by omega, ?_, rfl⟩, ?_, fun rec => ?_⟩
    · rw [hdr] at h5
      simp only [ptsO, List.map_cons, lenP] at h5
      rw [← h5, Int.add_assoc]
      rfl
    · show x2.length - (((i + 1 : Nat) : Int)).toNat < x2.length - ((i : Int)).toNat
      rw [Int.toNat_natCast, Int.toNat_natCast]; omega
    · have i1 : wrapI .i64 (((i : Nat) : Int) + 1) = ((i + 1 : Nat) : Int) := (wrap64 (by omega) (by omega)).trans (by omega)
      simp only [lt_nat hi, inB_nat hi, getD_at hi, inB_int hk.1 hk.2, i1, hs, cond_true, Int.toNat_natCast]
      rw [wrap64 (n := s + _) (by omega) (by omega)]
      rfl
  · left
    intro rec
    obtain rfl : i = x2.length := by omega
    simp only [lt_self, cond_false]
    rw [List.drop_length] at h5
    have h5 : s + 0 = lenO x0 x1 x2 := h5
    rw [← h5, Int.add_zero]⟩
noncomputable def E_etchhouseref8_length : Entry Try.prog := Entry.of tok T_etchhouseref8_length I_etchhouseref8_length it_etchhouseref8_length (fun (x0, x1, x2, ()) => S_lenR x0 x1 x2) (fun (x0, x1, x2, ()) r hok h => ok_etchhouseref8_length x0 x1 x2 hok r h)

end Go.Proofs.Ytlibmodfpkhdpaa
namespace Go.Proofs.Ytlibmodfpkhdpaa
open Go Go.VM
/-! ### etchhouse.etchhouseref8.Length -/
noncomputable def I_etchhouseref8_Length : Inst := ⟨25, Try.f25, .two (.reg []) (.two (.two (.reg [(3, 0)]) (.two (.two (.reg []) (.leaf)) (.leaf))) (.two (.reg [(3, 1)]) (.leaf))), (.cons (.pv (.sl (.pair i (.pair i .unit)))) (.cons (.pv (.pair i (.pair i .unit))) (.cons (.pv (.sl i)) .nil))), (.cons .flat i .nil)⟩
theorem it_etchhouseref8_Length : InTab Try.prog I_etchhouseref8_Length := ⟨Try.func25, by kernel_rfl, rfl⟩
noncomputable def T_etchhouseref8_Length : Nat → Entry Try.prog := nth (Entry.no Try.f0) [E_etchhouseref8_IsOrder, E_etchhouseref8_length]
noncomputable def B_etchhouseref8_Length (x0 : List (Int × (Int × Unit))) (x1 : (Int × (Int × Unit))) (x2 : List Int) : Option (((Int × Unit) × (Unit × (Unit × (Unit × Unit))))) :=
  ((S_ordO x2 ((x0.length : Nat) : Int)).bind fun ((r1aa, ()), ((), ((), ()))) =>
  (bif (!r1aa) then
    some (((-1), ()), ((), ((), ((), ()))))
  else
    ((S_lenR x0 x1 x2).bind fun ((r2aa, ()), ((), ((), ((), ())))) =>
    some ((r2aa, ()), ((), ((), ((), ())))))))
theorem B_etchhouseref8_Length_eq (n : Nat) (x0 : List (Int × (Int × Unit))) (x1 : (Int × (Int × Unit))) (x2 : List Int) : bodyE ty T_etchhouseref8_Length n I_etchhouseref8_Length (x0, (x1, (x2, ()))) = B_etchhouseref8_Length x0 x1 x2 := by kernel_rfl

end Go.Proofs.Ytlibmodfpkhdpaa
namespace Go.Proofs.Ytlibmodfpkhdpaa
open Go Go.VM
noncomputable def E_etchhouseref8_Length : Entry Try.prog := Entry.of tok T_etchhouseref8_Length I_etchhouseref8_Length it_etchhouseref8_Length (fun x => B_etchhouseref8_Length x.1 x.2.1 x.2.2.1) (fun (a0, a1, a2, ()) r _ h => ⟨0, (B_etchhouseref8_Length_eq 0 a0 a1 a2).trans h⟩)

end Go.Proofs.Ytlibmodfpkhdpaa
namespace Go.Proofs.Ytlibmodfpkhdpaa
open Go Go.VM
/-! ### etchhouse.drill.Shortest -/
noncomputable def I_drill_Shortest : Inst := ⟨21, Try.f21, .two (.reg []) (.two (.two (.reg [(2, 0)]) (.two (.reg []) (.two (.two (.reg []) (.leaf)) (.leaf)))) (.two (.reg []) (.two (.reg []) (.two (.two (.reg []) (.one (.loop ⟨[(38, .pv i)], [(9, ⟨(.own (.own .flat)), (.sl (.sl i)), false, false⟩)], [0, 3, 8, 9, 37], [3]⟩ (.two (.reg []) (.two (.two (.leaf) (.leaf)) (.two (.one (.two (.reg []) (.two (.reg []) (.two (.reg []) (.one (.loop ⟨[(48, .pv i)], [(9, ⟨(.own (.own .flat)), (.sl (.sl i)), false, false⟩)], [0, 3, 8, 9, 10, 37, 38, 46, 47], [3]⟩ (.two (.reg []) (.two (.two (.leaf) (.leaf)) (.two (.one (.two (.reg []) (.two (.two (.reg []) (.two (.leaf) (.leaf))) (.two (.reg []) (.two (.two (.reg []) (.one (.loop ⟨[(13, .pv i), (57, .pv i)], [], [0, 3, 8, 9, 10, 11, 12, 37, 38, 46, 47, 48, 55, 56], [3, 9, 12]⟩ (.two (.reg []) (.two (.two (.leaf) (.leaf)) (.two (.one (.two (.reg []) (.two (.reg []) (.two (.two (.draw [(2, 1)] [0, 1, 3, 4, 5, 6, 7, 8, 9, 10, 11, 12, 2, 13, 14] [15, 9, 12]) (.two (.reg []) (.two (.reg []) (.leaf)))) (.leaf))))) (.reg []))))))) (.reg [])))))) (.reg [])))))))))) (.reg []))))))) (.two (.reg []) (.two (.reg []) (.two (.two (.reg []) (.one (.loop ⟨[(17, .st (.at (.rf 17 []))), (18, .pv i), (19, .pv i)], [(17, ⟨(.own .flat), (.sl i), false, false⟩), (3, ⟨.flat, (.pair i (.pair i .unit)), true, false⟩)], [0, 3, 9], [9]⟩ (.two (.two (.reg []) (.two (.leaf) (.leaf))) (.one (.two (.reg []) (.two (.two (.reg []) (.one (.loop ⟨[(20, .pv i), (21, .pv i), (106, .pv i)], [], [0, 3, 9, 17, 18, 19, 104, 105], [3, 9, 17]⟩ (.two (.reg []) (.two (.two (.leaf) (.leaf)) (.two (.one (.two (.reg []) (.two (.reg []) (.two (.two (.draw [(2, 1)] [0, 1, 3, 4, 5, 6, 7, 8, 9, 10, 11, 12, 2, 13, 14] [23, 3, 9]) (.two (.reg []) (.two (.reg []) (.leaf)))) (.leaf))))) (.reg []))))))) (.two (.draw [(6, 1)] [0, 1, 2, 3, 4, 5, 6, 7, 8] [3]) (.draw [] [0, 1, 4, 5, 6, 7, 8, 9, 10, 11, 2, 3, 12, 13, 14] [17, 3]))))))))) (.two (.reg []) (.leaf))))))))), (.cons (.pv (.sl (.pair i (.pair i .unit)))) (.cons (.pv (.pair i (.pair i .unit))) .nil)), (.cons (.own .flat) (.sl i) (.cons .flat i (.cons .flat i .nil)))⟩
theorem it_drill_Shortest : InTab Try.prog I_drill_Shortest := ⟨Try.func21, by kernel_rfl, rfl⟩
noncomputable def T_drill_Shortest : Nat → Entry Try.prog := nth (Entry.no Try.f0) [E_drill_checkPoints, E_drill_far]
noncomputable def B_drill_Shortest (n : Nat) (x0 : List (Int × (Int × Unit))) (x1 : (Int × (Int × Unit))) : Option (((List Int × (Int × (Int × Unit))) × (Unit × (Unit × Unit)))) :=
  (bif (!(decide ((S_chk x0 x1 10 = 0)))) then
    some (([], (0, (S_chk x0 x1 10, ()))), ((), ((), ())))
  else
    (bif decide ((0 ≤ ((x0.length : Nat) : Int))) then
      (bif ((decide ((0 ≤ wrapI .i64 (1 * (2 ^ min (((x0.length : Nat) : Int).toNat) 64)))) && decide ((wrapI .i64 (1 * (2 ^ min (((x0.length : Nat) : Int).toNat) 64)) ≤ wrapI .i64 (1 * (2 ^ min (((x0.length : Nat) : Int).toNat) 64))))) && decide ((wrapI .i64 (1 * (2 ^ min (((x0.length : Nat) : Int).toNat) 64)) ≤ 4294967296))) then
        loopN (fun rec1 => fun
        | ((v1aa, ()), (v1ba, ())) =>
          (bif decide ((v1aa < (((List.replicate (α := List Int) ((wrapI .i64 (1 * (2 ^ min (((x0.length : Nat) : Int).toNat) 64))).toNat) []).length : Nat) : Int))) then
            (bif ((decide ((0 ≤ ((x0.length : Nat) : Int))) && decide ((((x0.length : Nat) : Int) ≤ ((x0.length : Nat) : Int)))) && decide ((((x0.length : Nat) : Int) ≤ 4294967296))) then
              (bif inB v1aa v1ba.length then
                loopN (fun rec2 => fun
                | ((v2aa, ()), (v2ba, ())) =>
                  (bif decide ((v2aa < ((x0.length : Nat) : Int))) then
                    (bif inB v2aa x0.length then
                      (bif decide ((v1aa = 0)) then
                        rec2 ((wrapI .i64 (v2aa + 1), ()), (v2ba, ()))
                      else
                        loopN (fun rec3 => fun
                        | ((v3aa, (v3aba, ())), ()) =>
                          (bif decide ((v3aba < ((x0.length : Nat) : Int))) then
                            (bif inB v3aba x0.length then
                              (bif decide ((0 ≤ v3aba)) then
                                (bif decide ((wrapI .i64 ((BitVec.toNat (BitVec.ofInt 64 (Int.fdiv v1aa (2 ^ min v3aba.toNat 64)) &&& BitVec.ofInt 64 1) : Nat) : Int) = 1)) then
                                  (bif decide ((0 ≤ v3aba)) then
                                    (bif inB (wrapI .i64 ((BitVec.toNat (BitVec.ofInt 64 v1aa &&& Complement.complement (BitVec.ofInt 64 (wrapI .i64 (1 * (2 ^ min v3aba.toNat 64))))) : Nat) : Int)) v2ba.length then
                                      (bif inB v3aba ((v2ba.getD ((wrapI .i64 ((BitVec.toNat (BitVec.ofInt 64 v1aa &&& Complement.complement (BitVec.ofInt 64 (wrapI .i64 (1 * (2 ^ min v3aba.toNat 64))))) : Nat) : Int)).toNat) []).length) then
                                        (bif decide ((v3aa < 0)) then
                                          rec3 ((wrapI .i64 (S_far (x0.getD v2aa.toNat (0, (0, ()))) (x0.getD v3aba.toNat (0, (0, ()))) + (v2ba.getD ((wrapI .i64 ((BitVec.toNat (BitVec.ofInt 64 v1aa &&& Complement.complement (BitVec.ofInt 64 (wrapI .i64 (1 * (2 ^ min v3aba.toNat 64))))) : Nat) : Int)).toNat) []).getD v3aba.toNat (0 : Int)), (wrapI .i64 (v3aba + 1), ())), ())
                                        else
                                          (bif decide ((((wrapI .i64 (S_far (x0.getD v2aa.toNat (0, (0, ()))) (x0.getD v3aba.toNat (0, (0, ()))) + (v2ba.getD ((wrapI .i64 ((BitVec.toNat (BitVec.ofInt 64 v1aa &&& Complement.complement (BitVec.ofInt 64 (wrapI .i64 (1 * (2 ^ min v3aba.toNat 64))))) : Nat) : Int)).toNat) []).getD v3aba.toNat (0 : Int))) : Int) < v3aa)) then
                                            rec3 ((wrapI .i64 (S_far (x0.getD v2aa.toNat (0, (0, ()))) (x0.getD v3aba.toNat (0, (0, ()))) + (v2ba.getD ((wrapI .i64 ((BitVec.toNat (BitVec.ofInt 64 v1aa &&& Complement.complement (BitVec.ofInt 64 (wrapI .i64 (1 * (2 ^ min v3aba.toNat 64))))) : Nat) : Int)).toNat) []).getD v3aba.toNat (0 : Int)), (wrapI .i64 (v3aba + 1), ())), ())
                                          else
                                            rec3 ((v3aa, (wrapI .i64 (v3aba + 1), ())), ())))
                                      else
                                        none)
                                    else
                                      none)
                                  else
                                    none)
                                else
                                  rec3 ((v3aa, (wrapI .i64 (v3aba + 1), ())), ()))
                              else
                                none)
                            else
                              none)
                          else
                            (bif inB v1aa v2ba.length then
                              (bif inB v2aa ((v2ba.getD v1aa.toNat []).length) then
                                rec2 ((wrapI .i64 (v2aa + 1), ()), (v2ba.set v1aa.toNat ((v2ba.getD v1aa.toNat []).set v2aa.toNat v3aa), ()))
                              else
                                none)
                            else
                              none)))
                        n (((-1), (0, ())), ()))
                    else
                      none)
                  else
                    rec1 ((wrapI .i64 (v1aa + 1), ()), (v2ba, ()))))
                n ((0, ()), (v1ba.set v1aa.toNat (List.replicate (α := Int) (((x0.length : Nat) : Int).toNat) 0), ()))
              else
                none)
            else
              none)
          else
            (bif decide ((0 ≤ ((x0.length : Nat) : Int))) then
              loopN (fun rec4 => fun
              | ((v4aa, (v4aba, ())), (v4ba, ((v4bbaa, (v4bbaba, ())), ()))) =>
                (bif decide ((0 < v4aba)) then
                  loopN (fun rec5 => fun
                  | ((v5aa, (v5aba, (v5abba, ()))), ()) =>
                    (bif decide ((v5abba < ((x0.length : Nat) : Int))) then
                      (bif inB v5abba x0.length then
                        (bif decide ((0 ≤ v5abba)) then
                          (bif decide ((wrapI .i64 ((BitVec.toNat (BitVec.ofInt 64 (Int.fdiv v4aba (2 ^ min v5abba.toNat 64)) &&& BitVec.ofInt 64 1) : Nat) : Int) = 1)) then
                            (bif decide ((0 ≤ v5abba)) then
                              (bif inB (wrapI .i64 ((BitVec.toNat (BitVec.ofInt 64 v4aba &&& Complement.complement (BitVec.ofInt 64 (wrapI .i64 (1 * (2 ^ min v5abba.toNat 64))))) : Nat) : Int)) v1ba.length then
                                (bif inB v5abba ((v1ba.getD ((wrapI .i64 ((BitVec.toNat (BitVec.ofInt 64 v4aba &&& Complement.complement (BitVec.ofInt 64 (wrapI .i64 (1 * (2 ^ min v5abba.toNat 64))))) : Nat) : Int)).toNat) []).length) then
                                  (bif decide ((v5aa < 0)) then
                                    rec5 ((v5abba, (wrapI .i64 (S_far (v4bbaa, (v4bbaba, ())) (x0.getD v5abba.toNat (0, (0, ()))) + (v1ba.getD ((wrapI .i64 ((BitVec.toNat (BitVec.ofInt 64 v4aba &&& Complement.complement (BitVec.ofInt 64 (wrapI .i64 (1 * (2 ^ min v5abba.toNat 64))))) : Nat) : Int)).toNat) []).getD v5abba.toNat (0 : Int)), (wrapI .i64 (v5abba + 1), ()))), ())
                                  else
                                    (bif decide ((((wrapI .i64 (S_far (v4bbaa, (v4bbaba, ())) (x0.getD v5abba.toNat (0, (0, ()))) + (v1ba.getD ((wrapI .i64 ((BitVec.toNat (BitVec.ofInt 64 v4aba &&& Complement.complement (BitVec.ofInt 64 (wrapI .i64 (1 * (2 ^ min v5abba.toNat 64))))) : Nat) : Int)).toNat) []).getD v5abba.toNat (0 : Int))) : Int) < v5aba)) then
                                      rec5 ((v5abba, (wrapI .i64 (S_far (v4bbaa, (v4bbaba, ())) (x0.getD v5abba.toNat (0, (0, ()))) + (v1ba.getD ((wrapI .i64 ((BitVec.toNat (BitVec.ofInt 64 v4aba &&& Complement.complement (BitVec.ofInt 64 (wrapI .i64 (1 * (2 ^ min v5abba.toNat 64))))) : Nat) : Int)).toNat) []).getD v5abba.toNat (0 : Int)), (wrapI .i64 (v5abba + 1), ()))), ())
                                    else
                                      rec5 ((v5aa, (v5aba, (wrapI .i64 (v5abba + 1), ()))), ())))
                                else
                                  none)
                              else
                                none)
                            else
                              none)
                          else
                            rec5 ((v5aa, (v5aba, (wrapI .i64 (v5abba + 1), ()))), ()))
                        else
                          none)
                      else
                        none)
                    else
                      (bif inB v5aa x0.length then
                        (bif inB v5aa x0.length then
                          (bif decide ((0 ≤ v5aa)) then
                            (bif decide (((v4ba.length + 1) ≤ 4294967296)) then
                              rec4 ((wrapI .i64 (v4aa + S_far (v4bbaa, (v4bbaba, ())) (x0.getD v5aa.toNat (0, (0, ())))), (wrapI .i64 ((BitVec.toNat (BitVec.ofInt 64 v4aba &&& Complement.complement (BitVec.ofInt 64 (wrapI .i64 (1 * (2 ^ min v5aa.toNat 64))))) : Nat) : Int), ())), ((v4ba ++ [v5aa]), (x0.getD v5aa.toNat (0, (0, ())), ())))
                            else
                              none)
                          else
                            none)
                        else
                          none)
                      else
                        none)))
                  n (((-1), (0, (0, ()))), ())
                else
                  some ((v4ba, (v4aa, (0, ()))), ((), ((), ())))))
              n ((0, (wrapI .i64 (wrapI .i64 (1 * (2 ^ min (((x0.length : Nat) : Int).toNat) 64)) - 1), ())), ([], (x1, ())))
            else
              none)))
        n ((0, ()), (List.replicate (α := List Int) ((wrapI .i64 (1 * (2 ^ min (((x0.length : Nat) : Int).toNat) 64))).toNat) [], ()))
      else
        none)
    else
      none))
theorem B_drill_Shortest_eq (n : Nat) (x0 : List (Int × (Int × Unit))) (x1 : (Int × (Int × Unit))) : bodyE ty T_drill_Shortest n I_drill_Shortest (x0, (x1, ())) = B_drill_Shortest n x0 x1 := by kernel_rfl

end Go.Proofs.Ytlibmodfpkhdpaa
namespace Go.Proofs.Ytlibmodfpkhdpaa
open Go Go.VM
def S_shL (x0 : List Pt) (x1 : Pt) : List Int := bif decide (S_chk x0 x1 10 = 0) then (optC x0 (List.replicate x0.length false) x1).2 else []
def S_shN (x0 : List Pt) (x1 : Pt) : Int := bif decide (S_chk x0 x1 10 = 0) then (optC x0 (List.replicate x0.length false) x1).1 else 0
set_option maxRecDepth 100000 in
theorem ok_drill_Shortest (x0 : List Pt) (x1 : Pt) (hok : OkA I_drill_Shortest.args (x0, x1, ())) : ∃ n, bodyE ty T_drill_Shortest n I_drill_Shortest (x0, x1, ()) = some ((S_shL x0 x1, S_shN x0 x1, S_chk x0 x1 10, ()), ((), (), ())) := by
  obtain ⟨N, hN⟩ : ∃ N, N = 2000 := ⟨_, rfl⟩
  refine ⟨N, ?_⟩
  rw [B_drill_Shortest_eq]
  unfold B_drill_Shortest S_shL S_shN
  cases hc : decide (S_chk x0 x1 10 = 0) with
  | false => rfl
  | true =>
  have hc := of_decide_eq_true hc
  obtain ⟨hp, hl, hn⟩ := chk_inR hc
  have hn : x0.length ≤ 10 := by omega
  simp only [Bool.not_true, cond_false, cond_true, hc]
  obtain ⟨M, hM⟩ : ∃ M, M = 2 ^ x0.length := ⟨_, rfl⟩
  have hM1 : M ≤ 1024 := by
    have : 2 ^ x0.length ≤ 2 ^ 10 := Nat.pow_le_pow_right (by omega) hn
    omega
  have hM0 : 0 < M := by rw [hM]; exact Nat.two_pow_pos _
  have w0 : wrapI .i64 (1 * (2 ^ min x0.length 64)) = (M : Int) := by
    have h2 : (2 : Int) ^ min x0.length 64 = (M : Int) := by rw [Nat.min_eq_left (by omega), hM]; simp
    rw [Int.one_mul, h2, wrap64 (by omega) (by omega)]
  have c0 : decide ((0 : Int) ≤ (x0.length : Int)) = true := decide_eq_true (by omega)
  have c1 : decide ((0 : Int) ≤ (M : Int)) = true := decide_eq_true (by omega)
  have c2 : decide ((M : Int) ≤ (M : Int)) = true := decide_eq_true (by omega)
  have c3 : decide ((M : Int) ≤ 4294967296) = true := decide_eq_true (by omega)
  have c4 : decide ((x0.length : Int) ≤ (x0.length : Int)) = true := decide_eq_true (by omega)
  have c5 : decide ((x0.length : Int) ≤ 4294967296) = true := decide_eq_true (by omega)
  have wM : wrapI .i64 ((M : Int) - 1) = ((M - 1 : Nat) : Int) := (wrap64 (by omega) (by omega)).trans (by omega)
  simp only [w0, c0, c1, c2, c3, c4, c5, wM, Bool.and_self, cond_true, Int.toNat_natCast, List.length_replicate]
  obtain ⟨full, hfull⟩ : ∃ z, z = optC x0 (List.replicate x0.length false) x1 := ⟨_, rfl⟩
  rw [← hfull]
  have hul : ∀ s, (uOf x0.length s).length = x0.length := fun s => uOf_length _ _
  refine loop_meas (fun x => ∃ (s : Nat) (T : List (List Int)), s ≤ M ∧ T.length = M ∧ (∀ j, j < s → T.getD j [] = rowD x0 j) ∧ x = (((s : Int), ()), (T, ()))) (fun x => M - x.1.1.toNat) _ ?_ N _ ⟨0, List.replicate M [], Nat.zero_le _, by simp, fun j h => absurd h (Nat.not_lt_zero _), rfl⟩ (by show M - (0 : Int).toNat < N; omega)
  rintro _ ⟨s, T, h1, h2, h3, rfl⟩
  by_cases hs : s < M
  · right
    have hs10 : s < 1024 := by omega
    refine ⟨((((s + 1 : Nat) : Int), ()), (T.set s (rowD x0 s), ())), ⟨s + 1, _, by omega, by rw [List.length_set]; exact h2, fun j hj => ?_, rfl⟩, ?_, fun rec1 => ?_⟩
    · rw [getD_set (by omega)]
      by_cases e : j = s
      · rw [if_pos e, e]
      · rw [if_neg e]; exact h3 j (by omega)
    · show M - (((s + 1 : Nat) : Int)).toNat < M - ((s : Int)).toNat
      rw [Int.toNat_natCast, Int.toNat_natCast]; omega
    · have j1 : decide ((s : Int) < (M : Int)) = true := decide_eq_true (by omega)
      have j2 : inB (s : Int) T.length = true := inB_nat (by omega)
      have j3 : wrapI .i64 (((s : Nat) : Int) + 1) = ((s + 1 : Nat) : Int) := (wrap64 (by omega) (by omega)).trans (by omega)
      simp only [j1, j2, j3, cond_true]
      refine loop_meas (fun x => ∃ (i : Nat) (row : List Int), i ≤ x0.length ∧ row.length = x0.length ∧ (∀ j, j < i → row.getD j 0 = (rowD x0 s).getD j 0) ∧ (s = 0 → ∀ j, j < x0.length → row.getD j 0 = 0) ∧ x = (((i : Int), ()), (T.set s row, ()))) (fun x => x0.length - x.1.1.toNat) _ ?_ N _ ⟨0, List.replicate x0.length 0, Nat.zero_le _, by simp, fun j h => absurd h (Nat.not_lt_zero _), fun _ j hj => by rw [List.getD_eq_getElem?_getD, List.getElem?_replicate, if_pos hj]; rfl, rfl⟩ (by show x0.length - (0 : Int).toNat < N; omega)
      rintro _ ⟨i, row, g1, g2, g3, g4, rfl⟩
      have r0 : (T.set s row).getD s [] = row := by rw [getD_set (by omega), if_pos rfl]
      by_cases hi : i < x0.length
      · right
        have i1 : wrapI .i64 (((i : Nat) : Int) + 1) = ((i + 1 : Nat) : Int) := (wrap64 (by omega) (by omega)).trans (by omega)
        have hpi : inR x0[i] := hl _ (List.getElem_mem hi)
        refine ⟨((((i + 1 : Nat) : Int), ()), (T.set s (bif decide (s = 0) then row else row.set i ((rowD x0 s).getD i 0)), ())), ⟨i + 1, _, hi, ?_, fun j hj => ?_, fun e j hj => ?_, rfl⟩, ?_, fun rec2 => ?_⟩
        · cases decide (s = 0) <;> simp [g2]
        · by_cases e0 : s = 0
          · rw [decide_eq_true e0, cond_true, g4 e0 j (by omega), rowD_at (by omega), e0, optC_none (uOf_zero _)]
          · rw [decide_eq_false e0, cond_false, getD_set (by omega)]
            by_cases e : j = i
            · rw [if_pos e, e]
            · rw [if_neg e]; exact g3 j (by omega)
        · rw [decide_eq_true e, cond_true]; exact g4 e j hj
        · show x0.length - (((i + 1 : Nat) : Int)).toNat < x0.length - ((i : Int)).toNat
          rw [Int.toNat_natCast, Int.toNat_natCast]; omega
        · by_cases e0 : s = 0
          · have z : decide ((s : Int) = 0) = true := decide_eq_true (by omega)
            simp only [lt_nat hi, inB_nat hi, z, i1, cond_true, decide_eq_true e0]
          · have z : decide ((s : Int) = 0) = false := decide_eq_false (by omega)
            have hpos := uOf_pos (n := x0.length) (s := s) (by omega) (by rw [← hM]; exact hs)
            simp only [lt_nat hi, inB_nat hi, z, i1, cond_true, cond_false, decide_eq_false e0]
            refine loop_meas (fun x => ∃ k : Nat, k ≤ x0.length ∧ x = ((encD (foldI (candF (optC x0) (uOf x0.length s) x0[i]) (x0.take k) 0 none), ((k : Int), ())), ())) (fun x => x0.length - x.1.2.1.toNat) _ ?_ N _ ⟨0, Nat.zero_le _, by rw [List.take_zero]; rfl⟩ (by show x0.length - (0 : Int).toNat < N; omega)
            rintro _ ⟨k, k1, rfl⟩
            by_cases hk : k < x0.length
            · right
              have k2 : wrapI .i64 (((k : Nat) : Int) + 1) = ((k + 1 : Nat) : Int) := (wrap64 (by omega) (by omega)).trans (by omega)
              refine ⟨_, ⟨k + 1, hk, rfl⟩, ?_, fun rec3 => ?_⟩
              · show x0.length - (((k + 1 : Nat) : Int)).toNat < x0.length - ((k : Int)).toNat
                rw [Int.toNat_natCast, Int.toNat_natCast]; omega
              · have k3 : decide ((0 : Int) ≤ (k : Int)) = true := decide_eq_true (by omega)
                have hb := bit_is (s := s) (k := k) hs10 (by omega)
                have hcl := clr_is (s := s) (k := k) hs10 (by omega)
                rw [foldI_take hk]
                have hci := cand_inv (optC x0) x0 (uOf x0.length s) x0[i] k1
                obtain ⟨acc, hacc⟩ : ∃ acc, acc = foldI (candF (optC x0) (uOf x0.length s) x0[i]) (x0.take k) 0 none := ⟨_, rfl⟩
                rw [← hacc] at hci ⊢
                simp only [lt_nat hk, inB_nat hk, k2, k3, cond_true, Int.toNat_natCast, hb, hcl]
                unfold candF
                rw [uOf_at hk]
                cases hbit : s.testBit k with
                | false => rfl
                | true =>
                  have hlt := clr_lt hs10 (by omega) hbit
                  have q1 : (T.set s row).getD (clrB s k) [] = rowD x0 (clrB s k) := by
                    rw [getD_set (by omega), if_neg (by omega)]; exact h3 _ hlt
                  have q2 : inB ((clrB s k : Nat) : Int) (T.set s row).length = true := inB_nat (by rw [List.length_set]; omega)
                  have q3 : inB (k : Int) (rowD x0 (clrB s k)).length = true := inB_nat (by simp [rowD]; exact hk)
                  have q4 : (rowD x0 (clrB s k)).getD k 0 = (optC x0 ((uOf x0.length s).set k true) x0[k]).1 := by rw [rowD_at hk, uOf_clr hs10 hk hn]
                  have q5 : S_far (x0.getD i (0, 0, ())) (x0.getD k (0, 0, ())) = dstZ x0[i] x0[k] := by rw [getD_at hi, getD_at hk]; exact far_dstZ hpi (hl _ (List.getElem_mem hk))
                  have q6 := cand_nn (hul s) hl hpi hk hn
                  have q7 : wrapI .i64 (dstZ x0[i] x0[k] + (optC x0 ((uOf x0.length s).set k true) x0[k]).1) = (candK (optC x0) (uOf x0.length s) x0[i] x0[k] k).1 := wrap64 (by have := q6.1; unfold candK at this; simp only at this; omega) (by have := q6.2; unfold candK at this; simp only at this; omega)
                  simp only [Bool.not_true, cond_true, cond_false, q1, q2, q3, q4, q5, q7]
                  cases acc with
                  | none => rfl
                  | some v =>
                    rcases hci with ⟨e, _⟩ | ⟨v', e, hv, _⟩
                    · cases e
                    · cases e
                      obtain ⟨m, m1, m2, m3⟩ := hv
                      have hv0 : 0 ≤ v.1 := by
                        rw [m3, getD_at (show m < x0.length by omega)]
                        exact (cand_nn (hul s) hl hpi (by omega) hn).1
                      have d0 : decide (v.1 < 0) = false := decide_eq_false (by omega)
                      rw [show encD (some v) = v.1 from rfl, d0, cond_false]
                      simp only
                      cases decide ((candK (optC x0) (uOf x0.length s) x0[i] x0[k] k).1 < v.1) <;> rfl
            · left
              intro rec3
              obtain rfl : k = x0.length := by omega
              obtain ⟨_, hst, _⟩ := optC_step (p := x0[i]) (hul s) hpos
              have q1 : inB (s : Int) (T.set s row).length = true := inB_nat (by rw [List.length_set]; omega)
              have q2 : inB (i : Int) row.length = true := inB_nat (by omega)
              rw [List.take_length, hst]
              simp only [lt_self, cond_false, cond_true, q1, r0, q2, i1, Int.toNat_natCast, List.set_set, encD]
              rw [rowD_at hi]
      · left
        intro rec2
        obtain rfl : i = x0.length := by omega
        have : row = rowD x0 s := ext_getD (d := 0) (by rw [g2]; simp [rowD]) fun t ht => g3 t (by omega)
        simp only [lt_self, cond_false, this]
  · left
    intro rec1
    obtain rfl : M = s := by omega
    simp only [lt_self, cond_false]
    refine loop_meas (fun x => ∃ (s : Nat) (out : List Int) (p : Pt) (sum : Int), s < M ∧ inR p ∧ out.length + (uOf x0.length s).count false ≤ 10 ∧ 0 ≤ sum ∧ out ++ (optC x0 (uOf x0.length s) p).2 = full.2 ∧ sum + (optC x0 (uOf x0.length s) p).1 = full.1 ∧ x = ((sum, ((s : Int), ())), (out, (p, ())))) (fun x => x.1.2.1.toNat) _ ?_ N _ ⟨M - 1, [], x1, 0, by omega, hp, by have := uOf_count x0.length (M - 1); simp; omega, Int.le_refl _, by rw [hM, uOf_full, hfull]; rfl, by rw [hM, uOf_full, hfull, Int.zero_add], rfl⟩ (by show (((M - 1 : Nat) : Int)).toNat < N; omega)
    have hfb : full.1 ≤ 20000000 := by
      have := optC_bound (u := List.replicate x0.length false) (p := x1) (by simp) hl hp
      rw [← hfull, List.count_replicate] at this
      simp at this
      omega
    rintro _ ⟨s, out, ⟨pa, pb, ⟨⟩⟩, sum, h1, hpi, h4, h5, h6, h7, rfl⟩
    have hs10 : s < 1024 := by omega
    by_cases hs : 0 < s
    · right
      have hpos := uOf_pos (n := x0.length) (s := s) hs (by rw [← hM]; exact h1)
      obtain ⟨kb, hst, kb1, kb2, kb3⟩ := optC_step (p := (pa, pb, ())) (hul s) hpos
      rw [getD_at kb1] at kb3
      have hbit : s.testBit kb = true := by rw [uOf_at kb1] at kb2; simpa using kb2
      have hlt := clr_lt hs10 (show kb < 10 by omega) hbit
      have hcnt := count_set1 (uOf x0.length s) kb (by rw [hul]; exact kb1) kb2
      have hd := dst_bound (pa, pb, ()) x0[kb] hpi (hl _ (List.getElem_mem kb1))
      have e1 : (optC x0 (uOf x0.length s) (pa, pb, ())).1 = dstZ (pa, pb, ()) x0[kb] + (optC x0 ((uOf x0.length s).set kb true) x0[kb]).1 := by rw [kb3]; rfl
      have e2 : (optC x0 (uOf x0.length s) (pa, pb, ())).2 = (kb : Int) :: (optC x0 ((uOf x0.length s).set kb true) x0[kb]).2 := by rw [kb3]; rfl
      have hob := optC_bound (u := (uOf x0.length s).set kb true) (p := x0[kb]) (by simp [hul]) hl (hl _ (List.getElem_mem kb1))
      refine ⟨((sum + dstZ (pa, pb, ()) x0[kb], (((clrB s kb : Nat) : Int), ())), (out ++ [(kb : Int)], (x0[kb], ()))), ⟨clrB s kb, _, _, _, by omega, hl _ (List.getElem_mem kb1), ?_, by omega, ?_, ?_, rfl⟩, ?_, fun rec4 => ?_⟩
      · rw [uOf_clr hs10 kb1 hn, List.length_append]
        have : ([(kb : Int)] : List Int).length = 1 := rfl
        omega
      · rw [uOf_clr hs10 kb1 hn, ← h6, e2, List.append_assoc]; rfl
      · rw [uOf_clr hs10 kb1 hn, ← h7, e1, Int.add_assoc]
      · show (((clrB s kb : Nat) : Int)).toNat < ((s : Int)).toNat
        rw [Int.toNat_natCast, Int.toNat_natCast]; exact hlt
      · have j1 : decide ((0 : Int) < (s : Int)) = true := decide_eq_true (by omega)
        simp only [j1, cond_true]
        refine loop_meas (fun x => ∃ k : Nat, k ≤ x0.length ∧ x = (((encH (foldI (candF (optC x0) (uOf x0.length s) (pa, pb, ())) (x0.take k) 0 none)).1, ((encH (foldI (candF (optC x0) (uOf x0.length s) (pa, pb, ())) (x0.take k) 0 none)).2, ((k : Int), ()))), ())) (fun x => x0.length - x.1.2.2.1.toNat) _ ?_ N _ ⟨0, Nat.zero_le _, by rw [List.take_zero]; rfl⟩ (by show x0.length - (0 : Int).toNat < N; omega)
        rintro _ ⟨k, k1, rfl⟩
        by_cases hk : k < x0.length
        · right
          have k2 : wrapI .i64 (((k : Nat) : Int) + 1) = ((k + 1 : Nat) : Int) := (wrap64 (by omega) (by omega)).trans (by omega)
          refine ⟨_, ⟨k + 1, hk, rfl⟩, ?_, fun rec3 => ?_⟩
          · show x0.length - (((k + 1 : Nat) : Int)).toNat < x0.length - ((k : Int)).toNat
            rw [Int.toNat_natCast, Int.toNat_natCast]; omega
          · have k3 : decide ((0 : Int) ≤ (k : Int)) = true := decide_eq_true (by omega)
            have hb := bit_is (s := s) (k := k) hs10 (by omega)
            have hcl := clr_is (s := s) (k := k) hs10 (by omega)
            rw [foldI_take hk]
            have hci := cand_inv (optC x0) x0 (uOf x0.length s) (pa, pb, ()) k1
            obtain ⟨acc, hacc⟩ : ∃ acc, acc = foldI (candF (optC x0) (uOf x0.length s) (pa, pb, ())) (x0.take k) 0 none := ⟨_, rfl⟩
            rw [← hacc] at hci ⊢
            simp only [lt_nat hk, inB_nat hk, k2, k3, cond_true, Int.toNat_natCast, hb, hcl]
            unfold candF
            rw [uOf_at hk]
            cases hbit2 : s.testBit k with
            | false => rfl
            | true =>
              have hlt2 := clr_lt hs10 (show k < 10 by omega) hbit2
              have q1 : T.getD (clrB s k) [] = rowD x0 (clrB s k) := h3 _ (by omega)
              have q2 : inB ((clrB s k : Nat) : Int) T.length = true := inB_nat (by omega)
              have q3 : inB (k : Int) (rowD x0 (clrB s k)).length = true := inB_nat (by simp [rowD]; exact hk)
              have q4 : (rowD x0 (clrB s k)).getD k 0 = (optC x0 ((uOf x0.length s).set k true) x0[k]).1 := by rw [rowD_at hk, uOf_clr hs10 hk hn]
              have q5 : S_far (pa, pb, ()) (x0.getD k (0, 0, ())) = dstZ (pa, pb, ()) x0[k] := by rw [getD_at hk]; exact far_dstZ hpi (hl _ (List.getElem_mem hk))
              have q6 : 0 ≤ dstZ (pa, pb, ()) x0[k] + (optC x0 ((uOf x0.length s).set k true) x0[k]).1 ∧ dstZ (pa, pb, ()) x0[k] + (optC x0 ((uOf x0.length s).set k true) x0[k]).1 ≤ 30000000 := cand_nn (hul s) hl hpi hk hn
              have q7 : wrapI .i64 (dstZ (pa, pb, ()) x0[k] + (optC x0 ((uOf x0.length s).set k true) x0[k]).1) = (candK (optC x0) (uOf x0.length s) (pa, pb, ()) x0[k] k).1 := wrap64 (by omega) (by omega)
              simp only [Bool.not_true, cond_true, cond_false, q1, q2, q3, q4, q5, q7]
              cases acc with
              | none => rfl
              | some v =>
                rcases hci with ⟨e, _⟩ | ⟨v', e, hv, _⟩
                · cases e
                · cases e
                  obtain ⟨m, m1, m2, m3⟩ := hv
                  have hv0 : v.2.headD 0 = (m : Int) := by rw [m3]; rfl
                  have d0 : decide ((m : Int) < 0) = false := decide_eq_false (by omega)
                  have he : encH (some v) = ((m : Int), v.1) := by unfold encH; simp only [hv0]
                  rw [he]
                  simp only [d0, cond_false]
                  cases decide ((candK (optC x0) (uOf x0.length s) (pa, pb, ()) x0[k] k).1 < v.1) with
                  | true => rfl
                  | false => simp only [cond_false, he]
        · left
          intro rec3
          obtain rfl : k = x0.length := by omega
          have hh : encH (some (optC x0 (uOf x0.length s) (pa, pb, ()))) = ((kb : Int), (optC x0 (uOf x0.length s) (pa, pb, ())).1) := by unfold encH; simp only; rw [e2]; rfl
          have q5 : S_far (pa, pb, ()) x0[kb] = dstZ (pa, pb, ()) x0[kb] := far_dstZ hpi (hl _ (List.getElem_mem kb1))
          have q6 : x0.getD kb (0, 0, ()) = x0[kb] := getD_at kb1
          have q7 : decide ((0 : Int) ≤ (kb : Int)) = true := decide_eq_true (by omega)
          have q8 : decide (out.length + 1 ≤ 4294967296) = true := decide_eq_true (by omega)
          have q9 : wrapI .i64 (sum + dstZ (pa, pb, ()) x0[kb]) = sum + dstZ (pa, pb, ()) x0[kb] := wrap64 (by omega) (by rw [e1] at h7; omega)
          rw [List.take_length, hst, hh]
          simp only [lt_self, cond_false, cond_true, inB_nat kb1, q5, q7, q8, q9, q6, Int.toNat_natCast, clr_is (s := s) (k := kb) hs10 (by omega)]
    · left
      intro rec4
      obtain rfl : s = 0 := by omega
      rw [optC_none (uOf_zero _)] at h6 h7
      rw [List.append_nil] at h6
      have h7 : sum + 0 = full.1 := h7
      have j1 : decide ((0 : Int) < ((0 : Nat) : Int)) = false := rfl
      simp only [j1, cond_false]
      rw [← h6, ← h7, Int.add_zero]
noncomputable def E_drill_Shortest : Entry Try.prog := Entry.of tok T_drill_Shortest I_drill_Shortest it_drill_Shortest (fun (x0, x1, ()) => some ((S_shL x0 x1, S_shN x0 x1, S_chk x0 x1 10, ()), ((), (), ()))) (fun (x0, x1, ()) r hok h => by cases h; exact ok_drill_Shortest x0 x1 hok)

end Go.Proofs.Ytlibmodfpkhdpaa
namespace Go.Proofs.Ytlibmodfpkhdpaa
open Go Go.VM
/-! ### etchhouse.etchhouselaw8.DrillOrdersAreOrders -/
noncomputable def I_etchhouselaw8_DrillOrdersAreOrders : Inst := ⟨8, Try.f8, .two (.reg []) (.two (.reg [(2, 0)]) (.two (.reg [(2, 1)]) (.two (.two (.reg []) (.two (.two (.reg [(14, 2)]) (.leaf)) (.leaf))) (.two (.draw [(3, 3), (7, 3)] [0, 1, 2, 4, 5, 6, 3, 7, 8, 9] [7, 5, 3]) (.two (.two (.reg [(12, 2)]) (.two (.two (.reg []) (.leaf)) (.leaf))) (.two (.reg [(2, 4)]) (.two (.two (.reg []) (.two (.two (.reg []) (.leaf)) (.leaf))) (.two (.reg [(3, 3)]) (.leaf))))))))), (.cons (.pv (.sl (.pair i (.pair i .unit)))) (.cons (.pv (.pair i (.pair i .unit))) .nil)), (.cons .flat .bool .nil)⟩
theorem it_etchhouselaw8_DrillOrdersAreOrders : InTab Try.prog I_etchhouselaw8_DrillOrdersAreOrders := ⟨Try.func8, by kernel_rfl, rfl⟩
noncomputable def T_etchhouselaw8_DrillOrdersAreOrders : Nat → Entry Try.prog := nth (Entry.no Try.f0) [E_drill_Greedy, E_drill_Better, E_etchhouselaw8_awake, E_etchhouseref8_Length, E_drill_Shortest]
noncomputable def B_etchhouselaw8_DrillOrdersAreOrders (x0 : List (Int × (Int × Unit))) (x1 : (Int × (Int × Unit))) : Option (((Bool × Unit) × (Unit × (Unit × Unit)))) :=
  ((S_GreedyP x0 x1).bind fun ((r1aa, (r1aba, ())), ((), ((), ()))) =>
  (bif (!(decide ((r1aba = 0)))) then
    (bif decide ((r1aba = S_chk x0 x1 200)) then
      (bif decide ((((r1aa.length : Nat) : Int) = 0)) then
        (bif decide (((((S_betP x0 x1).length : Nat) : Int) = 0)) then
          some ((S_etchhouselaw8_awake, ()), ((), ((), ())))
        else
          some ((false, ()), ((), ((), ()))))
      else
        some ((false, ()), ((), ((), ()))))
    else
      some ((false, ()), ((), ((), ()))))
  else
    (bif (!(decide ((S_chk x0 x1 200 = 0)))) then
      (bif decide ((r1aba = S_chk x0 x1 200)) then
        (bif decide ((((r1aa.length : Nat) : Int) = 0)) then
          (bif decide (((((S_betP x0 x1).length : Nat) : Int) = 0)) then
            some ((S_etchhouselaw8_awake, ()), ((), ((), ())))
          else
            some ((false, ()), ((), ((), ()))))
        else
          some ((false, ()), ((), ((), ()))))
      else
        some ((false, ()), ((), ((), ()))))
    else
      ((B_etchhouseref8_Length x0 x1 r1aa).bind fun ((r2aa, ()), ((), ((), ((), ())))) =>
      ((B_etchhouseref8_Length x0 x1 (S_betP x0 x1)).bind fun ((r3aa, ()), ((), ((), ((), ())))) =>
      (bif decide ((r2aa < 0)) then
        some ((false, ()), ((), ((), ())))
      else
        (bif decide ((r3aa < 0)) then
          some ((false, ()), ((), ((), ())))
        else
          (bif decide ((r2aa < r3aa)) then
            some ((false, ()), ((), ((), ())))
          else
            (bif (!(decide ((S_chk x0 x1 10 = 0)))) then
              (bif decide ((S_chk x0 x1 10 = 2)) then
                some ((decide (((((S_shL x0 x1).length : Nat) : Int) = 0)), ()), ((), ((), ())))
              else
                some ((false, ()), ((), ((), ()))))
            else
              ((B_etchhouseref8_Length x0 x1 (S_shL x0 x1)).bind fun ((r4aa, ()), ((), ((), ((), ())))) =>
              (bif decide ((r4aa = S_shN x0 x1)) then
                some ((decide ((S_shN x0 x1 ≤ r3aa)), ()), ((), ((), ())))
              else
                some ((false, ()), ((), ((), ()))))))))))))))
theorem B_etchhouselaw8_DrillOrdersAreOrders_eq (n : Nat) (x0 : List (Int × (Int × Unit))) (x1 : (Int × (Int × Unit))) : bodyE ty T_etchhouselaw8_DrillOrdersAreOrders n I_etchhouselaw8_DrillOrdersAreOrders (x0, (x1, ())) = B_etchhouselaw8_DrillOrdersAreOrders x0 x1 := by kernel_rfl

end Go.Proofs.Ytlibmodfpkhdpaa
namespace Go.Proofs.Ytlibmodfpkhdpaa
open Go Go.VM
noncomputable def E_etchhouselaw8_DrillOrdersAreOrders : Entry Try.prog := Entry.of tok T_etchhouselaw8_DrillOrdersAreOrders I_etchhouselaw8_DrillOrdersAreOrders it_etchhouselaw8_DrillOrdersAreOrders (fun x => B_etchhouselaw8_DrillOrdersAreOrders x.1 x.2.1) (fun (a0, a1, ()) r _ h => ⟨0, (B_etchhouselaw8_DrillOrdersAreOrders_eq 0 a0 a1).trans h⟩)

end Go.Proofs.Ytlibmodfpkhdpaa
namespace Go.Proofs.Ytlibmodfpkhdpaa
open Go Go.VM
namespace LDrillOrdersAreOrders
theorem length_ord {l : List Pt} {p : Pt} {z : List Int} (h : IsOrd l.length z) (hl : ∀ a, a ∈ l → inR a) (hp : inR p) (hn : l.length ≤ 200) : B_etchhouseref8_Length l p z = some ((lenO l p z, ()), ((), ((), ((), ())))) := by
  have h1 : S_ordO z ((l.length : Nat) : Int) = some ((true, ()), ((), ((), ()))) := by
    unfold S_ordO
    rw [if_pos ⟨by omega, by omega, by rw [Int.toNat_natCast]; exact h⟩]
  have h2 : S_lenR l p z = some ((lenO l p z, ()), ((), ((), ((), ())))) := by
    unfold S_lenR
    rw [if_pos (h.good hl hp hn)]
  unfold B_etchhouseref8_Length
  rw [h1, h2]
  rfl
theorem chk_less {l : List Pt} {p : Pt} (h : S_chk l p 200 = 0) (h1 : S_chk l p 10 ≠ 0) : S_chk l p 10 = 2 := by
  unfold S_chk at *
  cases hd : decide ((10 : Int) < (l.length : Int)) with
  | true => rfl
  | false =>
    exfalso
    have hd' := of_decide_eq_false hd
    rw [decide_eq_false (show ¬ ((200 : Int) < (l.length : Int)) by omega), cond_false] at h
    rw [hd, cond_false] at h1
    exact h1 h
theorem law (x0 : List Pt) (x1 : Pt) : B_etchhouselaw8_DrillOrdersAreOrders x0 x1 = some ((true, ()), ((), ((), ()))) := by
  unfold B_etchhouselaw8_DrillOrdersAreOrders
  by_cases hc : S_chk x0 x1 200 = 0
  · obtain ⟨hp, hl, hn⟩ := chk_inR hc
    have hn : x0.length ≤ 200 := by omega
    obtain ⟨hg, ho⟩ := grd_is hl hp (d := S_far) fun a b ha hb => far_dstZ ha hb
    have e1 : S_GreedyP x0 x1 = some ((grdO x0 x1, (0, ())), ((), ((), ()))) := by
      unfold S_GreedyP; rw [decide_eq_true hc, cond_true, hg]; rfl
    have e2 : S_betP x0 x1 = betO x0 x1 := by unfold S_betP; rw [decide_eq_true hc]; rfl
    obtain ⟨b1, b2⟩ := betN_is (l := x0) (p := x1) maxTurns (grdO x0 x1)
    have hb : IsOrd x0.length (betO x0 x1) := ho.perm b1
    have hb2 : lenO x0 x1 (betO x0 x1) ≤ lenO x0 x1 (grdO x0 x1) := b2
    have l1 := lenO_bound (order := grdO x0 x1) hl hp (by rw [ho.len]; exact hn)
    have l2 := lenO_bound (order := betO x0 x1) hl hp (by rw [hb.len]; exact hn)
    rw [e1, e2]
    simp only [Option.bind_some, length_ord ho hl hp hn, length_ord hb hl hp hn, hc, decide_true, Bool.not_true, cond_false]
    rw [decide_eq_false (show ¬ lenO x0 x1 (grdO x0 x1) < 0 by omega), decide_eq_false (show ¬ lenO x0 x1 (betO x0 x1) < 0 by omega), decide_eq_false (show ¬ lenO x0 x1 (grdO x0 x1) < lenO x0 x1 (betO x0 x1) by omega)]
    simp only [cond_false]
    by_cases h10 : S_chk x0 x1 10 = 0
    · obtain ⟨_, _, hn10⟩ := chk_inR h10
      have R := optC_is (l := x0) (u := List.replicate x0.length false) (by simp) x1
      rw [List.count_replicate] at R
      have hcnt : (if ((false : Bool) == false) = true then x0.length else 0) = x0.length := rfl
      have s1 : S_shL x0 x1 = (optC x0 (List.replicate x0.length false) x1).2 := by unfold S_shL; rw [decide_eq_true h10]; rfl
      have s2 : S_shN x0 x1 = (optC x0 (List.replicate x0.length false) x1).1 := by unfold S_shN; rw [decide_eq_true h10]; rfl
      have hs : IsOrd x0.length (S_shL x0 x1) := by
        rw [s1]
        exact ⟨R.nd, fun k hk => by obtain ⟨m, m1, m2, _⟩ := R.free k hk; omega, R.len.trans hcnt⟩
      have hlen : lenO x0 x1 (S_shL x0 x1) = S_shN x0 x1 := by rw [s1, s2]; exact R.sum
      have hle : S_shN x0 x1 ≤ lenO x0 x1 (betO x0 x1) := by
        rw [s2]
        refine R.least (betO x0 x1) hb.nd (fun x hx => ?_) (hb.len.trans hcnt.symm)
        have := hb.at_ x hx
        refine ⟨x.toNat, by omega, by omega, ?_⟩
        rw [List.getD_eq_getElem?_getD, List.getElem?_replicate, if_pos (by omega)]; rfl
      simp only [h10, decide_true, Bool.not_true, cond_false, length_ord hs hl hp hn, Option.bind_some, hlen, cond_true]
      rw [decide_eq_true hle]
    · have h2 := chk_less hc h10
      have s1 : S_shL x0 x1 = [] := by unfold S_shL; rw [decide_eq_false h10]; rfl
      rw [decide_eq_false h10, h2, s1]
      rfl
  · have e1 : S_GreedyP x0 x1 = some (([], (S_chk x0 x1 200, ())), ((), ((), ()))) := by
      unfold S_GreedyP; rw [decide_eq_false hc, cond_false]
    have e2 : S_betP x0 x1 = [] := by unfold S_betP; rw [decide_eq_false hc]; rfl
    rw [e1, e2]
    simp only [Option.bind_some, decide_eq_false hc, Bool.not_false, cond_true, decide_true]
    rfl

end LDrillOrdersAreOrders
end Go.Proofs.Ytlibmodfpkhdpaa
