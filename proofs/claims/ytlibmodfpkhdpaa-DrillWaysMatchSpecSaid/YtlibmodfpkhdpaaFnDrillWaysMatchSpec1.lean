/- What the functions that DrillWaysMatchSpec reaches compute, part 1; and that the law answers true, for all arguments that a row reads. -/
import Derived.Test.YtlibmodfpkhdpaaProg
import Derived.Test.YtlibmodfpkhdpaaVm3
namespace Go.Proofs.Ytlibmodfpkhdpaa
open Go Go.VM
abbrev i : Ty := .int .i64
def tab : List (Nat × Ty) := [(22, (.sl (.pair i (.pair i .unit)))), (24, (.pair i (.pair i .unit))), (3, i), (4, .bool), (25, i), (28, (.sl i)), (62, (.sl .bool))]
def ty : Types := mkTypes tab []
theorem tok : TyOK Try.prog ty := tyok_of_check (by kernel_rfl)
end Go.Proofs.Ytlibmodfpkhdpaa
namespace Go.Proofs.Ytlibmodfpkhdpaa
open Go Go.VM
/-! ### etchhouse.shape.within -/
noncomputable def I_shape_within : Inst := ⟨55, Try.f55, .two (.reg []) (.two (.reg []) (.leaf)), (.cons (.pv i) (.cons (.pv i) (.cons (.pv i) .nil))), (.cons .flat .bool .nil)⟩
theorem it_shape_within : InTab Try.prog I_shape_within := ⟨Try.func55, by kernel_rfl, rfl⟩
noncomputable def T_shape_within : Nat → Entry Try.prog := nth (Entry.no Try.f0) []
noncomputable def B_shape_within (x0 : Int) (x1 : Int) (x2 : Int) : Option (((Bool × Unit) × (Unit × (Unit × (Unit × Unit))))) :=
  (bif decide ((x1 ≤ x0)) then
    some ((decide ((x0 ≤ x2)), ()), ((), ((), ((), ()))))
  else
    some ((false, ()), ((), ((), ((), ())))))
theorem B_shape_within_eq (n : Nat) (x0 : Int) (x1 : Int) (x2 : Int) : bodyE ty T_shape_within n I_shape_within (x0, (x1, (x2, ()))) = B_shape_within x0 x1 x2 := by kernel_rfl
def S_within (n lo hi : Int) : Bool := decide (lo ≤ n) && decide (n ≤ hi)
theorem ok_shape_within (x0 x1 x2 : Int) (hok : OkA I_shape_within.args (x0, x1, x2, ())) : ∃ n, bodyE ty T_shape_within n I_shape_within (x0, x1, x2, ()) = some ((S_within x0 x1 x2, ()), ((), (), (), ())) := ⟨0, by
  rw [B_shape_within_eq]; unfold B_shape_within S_within; cases decide (x1 ≤ x0) <;> rfl⟩
noncomputable def E_shape_within : Entry Try.prog := Entry.of tok T_shape_within I_shape_within it_shape_within (fun (x0, x1, x2, ()) => some ((S_within x0 x1 x2, ()), ((), (), (), ()))) (fun (x0, x1, x2, ()) r hok h => by cases h; exact ok_shape_within x0 x1 x2 hok)

end Go.Proofs.Ytlibmodfpkhdpaa
namespace Go.Proofs.Ytlibmodfpkhdpaa
open Go Go.VM
/-! ### etchhouse.shape.IsAt -/
noncomputable def I_shape_IsAt : Inst := ⟨53, Try.f53, .two (.reg []) (.two (.reg [(1, 0)]) (.leaf)), (.cons (.pv i) .nil), (.cons .flat .bool .nil)⟩
theorem it_shape_IsAt : InTab Try.prog I_shape_IsAt := ⟨Try.func53, by kernel_rfl, rfl⟩
noncomputable def T_shape_IsAt : Nat → Entry Try.prog := nth (Entry.no Try.f0) [E_shape_within]
noncomputable def B_shape_IsAt (x0 : Int) : Option (((Bool × Unit) × (Unit × Unit))) :=
  some ((S_within x0 (-1000000) 1000000, ()), ((), ()))
theorem B_shape_IsAt_eq (n : Nat) (x0 : Int) : bodyE ty T_shape_IsAt n I_shape_IsAt (x0, ()) = B_shape_IsAt x0 := by kernel_rfl
theorem ok_shape_IsAt (x0 : Int) (hok : OkA I_shape_IsAt.args (x0, ())) : ∃ n, bodyE ty T_shape_IsAt n I_shape_IsAt (x0, ()) = some ((S_within x0 (-1000000) 1000000, ()), ((), ())) := ⟨0, by rw [B_shape_IsAt_eq]; rfl⟩
noncomputable def E_shape_IsAt : Entry Try.prog := Entry.of tok T_shape_IsAt I_shape_IsAt it_shape_IsAt (fun (x0, ()) => some ((S_within x0 (-1000000) 1000000, ()), ((), ()))) (fun (x0, ()) r hok h => by cases h; exact ok_shape_IsAt x0 hok)

end Go.Proofs.Ytlibmodfpkhdpaa
namespace Go.Proofs.Ytlibmodfpkhdpaa
open Go Go.VM
/-! ### etchhouse.shape.IsPoint -/
noncomputable def I_shape_IsPoint : Inst := ⟨45, Try.f45, .two (.reg []) (.two (.reg [(2, 0), (6, 0)]) (.leaf)), (.cons (.pv (.pair i (.pair i .unit))) .nil), (.cons .flat .bool .nil)⟩
theorem it_shape_IsPoint : InTab Try.prog I_shape_IsPoint := ⟨Try.func45, by kernel_rfl, rfl⟩
noncomputable def T_shape_IsPoint : Nat → Entry Try.prog := nth (Entry.no Try.f0) [E_shape_IsAt]
noncomputable def B_shape_IsPoint (x0 : (Int × (Int × Unit))) : Option (((Bool × Unit) × (Unit × Unit))) :=
  (bif S_within x0.1 (-1000000) 1000000 then
    some ((S_within x0.2.1 (-1000000) 1000000, ()), ((), ()))
  else
    some ((false, ()), ((), ())))
theorem B_shape_IsPoint_eq (n : Nat) (x0 : (Int × (Int × Unit))) : bodyE ty T_shape_IsPoint n I_shape_IsPoint (x0, ()) = B_shape_IsPoint x0 := by kernel_rfl
def S_isPt (p : Int × Int × Unit) : Bool := S_within p.1 (-1000000) 1000000 && S_within p.2.1 (-1000000) 1000000
theorem ok_shape_IsPoint (x0 : Int × Int × Unit) (hok : OkA I_shape_IsPoint.args (x0, ())) : ∃ n, bodyE ty T_shape_IsPoint n I_shape_IsPoint (x0, ()) = some ((S_isPt x0, ()), ((), ())) := ⟨0, by
  rw [B_shape_IsPoint_eq]; unfold B_shape_IsPoint S_isPt; cases S_within x0.1 (-1000000) 1000000 <;> rfl⟩
noncomputable def E_shape_IsPoint : Entry Try.prog := Entry.of tok T_shape_IsPoint I_shape_IsPoint it_shape_IsPoint (fun (x0, ()) => some ((S_isPt x0, ()), ((), ()))) (fun (x0, ()) r hok h => by cases h; exact ok_shape_IsPoint x0 hok)

end Go.Proofs.Ytlibmodfpkhdpaa
namespace Go.Proofs.Ytlibmodfpkhdpaa
open Go Go.VM
/-! ### etchhouse.drill.checkPoints$1 -/
noncomputable def I_drill_checkPoints_1 : Inst := ⟨47, Try.f47, .two (.reg []) (.two (.reg [(1, 0)]) (.leaf)), (.cons (.pv (.pair i (.pair i .unit))) .nil), (.cons .flat .bool .nil)⟩
theorem it_drill_checkPoints_1 : InTab Try.prog I_drill_checkPoints_1 := ⟨Try.func47, by kernel_rfl, rfl⟩
noncomputable def T_drill_checkPoints_1 : Nat → Entry Try.prog := nth (Entry.no Try.f0) [E_shape_IsPoint]
noncomputable def B_drill_checkPoints_1 (x0 : (Int × (Int × Unit))) : Option (((Bool × Unit) × (Unit × Unit))) :=
  some (((!(S_isPt x0)), ()), ((), ()))
theorem B_drill_checkPoints_1_eq (n : Nat) (x0 : (Int × (Int × Unit))) : bodyE ty T_drill_checkPoints_1 n I_drill_checkPoints_1 (x0, ()) = B_drill_checkPoints_1 x0 := by kernel_rfl
theorem ok_drill_checkPoints_1 (x0 : Int × Int × Unit) (hok : OkA I_drill_checkPoints_1.args (x0, ())) : ∃ n, bodyE ty T_drill_checkPoints_1 n I_drill_checkPoints_1 (x0, ()) = some ((!S_isPt x0, ()), ((), ())) := ⟨0, by rw [B_drill_checkPoints_1_eq]; rfl⟩
noncomputable def E_drill_checkPoints_1 : Entry Try.prog := Entry.of tok T_drill_checkPoints_1 I_drill_checkPoints_1 it_drill_checkPoints_1 (fun (x0, ()) => some ((!S_isPt x0, ()), ((), ()))) (fun (x0, ()) r hok h => by cases h; exact ok_drill_checkPoints_1 x0 hok)

end Go.Proofs.Ytlibmodfpkhdpaa
namespace Go.Proofs.Ytlibmodfpkhdpaa
open Go Go.VM
/-! ### slices.IndexFunc[[]etchhouse.api.Point,etchhouse.api.Point] -/
noncomputable def I_slices_IndexFunc_etchhouse_api_Point_etchhouse_api_Point_of_drill_checkPoints_1 : Inst := ⟨54, Try.f54, .two (.reg []) (.two (.two (.reg []) (.one (.loop ⟨[(8, .pv i)], [], [0, 1, 7], []⟩ (.two (.reg []) (.two (.two (.leaf) (.leaf)) (.two (.one (.two (.reg []) (.two (.reg [(5, 0)]) (.two (.two (.reg []) (.leaf)) (.leaf))))) (.reg []))))))) (.two (.reg []) (.leaf))), (.cons (.pv (.sl (.pair i (.pair i .unit)))) (.cons (.fn 47 .nil) .nil)), (.cons .flat i .nil)⟩
theorem it_slices_IndexFunc_etchhouse_api_Point_etchhouse_api_Point_of_drill_checkPoints_1 : InTab Try.prog I_slices_IndexFunc_etchhouse_api_Point_etchhouse_api_Point_of_drill_checkPoints_1 := ⟨Try.func54, by kernel_rfl, rfl⟩
noncomputable def T_slices_IndexFunc_etchhouse_api_Point_etchhouse_api_Point_of_drill_checkPoints_1 : Nat → Entry Try.prog := nth (Entry.no Try.f0) [E_drill_checkPoints_1]
noncomputable def B_slices_IndexFunc_etchhouse_api_Point_etchhouse_api_Point_of_drill_checkPoints_1 (n : Nat) (x0 : List (Int × (Int × Unit))) (x1 : Unit) : Option (((Int × Unit) × (Unit × (Unit × Unit)))) :=
  loopN (fun rec1 => fun
  | ((v1aa, ()), ()) =>
    (bif decide ((v1aa < ((x0.length : Nat) : Int))) then
      (bif inB v1aa x0.length then
        (bif (!(S_isPt (x0.getD v1aa.toNat (0, (0, ()))))) then
          some ((v1aa, ()), ((), ((), ())))
        else
          rec1 ((wrapI .i64 (v1aa + 1), ()), ()))
      else
        none)
    else
      some (((-1), ()), ((), ((), ())))))
  n ((0, ()), ())
theorem B_slices_IndexFunc_etchhouse_api_Point_etchhouse_api_Point_of_drill_checkPoints_1_eq (n : Nat) (x0 : List (Int × (Int × Unit))) (x1 : Unit) : bodyE ty T_slices_IndexFunc_etchhouse_api_Point_etchhouse_api_Point_of_drill_checkPoints_1 n I_slices_IndexFunc_etchhouse_api_Point_etchhouse_api_Point_of_drill_checkPoints_1 (x0, (x1, ())) = B_slices_IndexFunc_etchhouse_api_Point_etchhouse_api_Point_of_drill_checkPoints_1 n x0 x1 := by kernel_rfl
def S_idxPt : List (Int × Int × Unit) → Nat → Int
  | [], _ => -1
  | a :: r, i => bif S_isPt a then S_idxPt r (i + 1) else (i : Int)
theorem idxPt_neg : ∀ (l : List (Int × Int × Unit)) (i : Nat), decide (0 ≤ S_idxPt l i) = !l.all S_isPt
  | [], i => by simp [S_idxPt]
  | a :: r, i => by
    have ih := idxPt_neg r (i + 1)
    by_cases h : S_isPt a = true
    · have : S_idxPt (a :: r) i = S_idxPt r (i + 1) := by simp only [S_idxPt, h, cond_true]
      rw [this, ih]; simp [h]
    · have h : S_isPt a = false := by simpa using h
      have : S_idxPt (a :: r) i = i := by simp only [S_idxPt, h, cond_false]
      rw [this]; simp [h]
theorem ok_slices_IndexFunc_etchhouse_api_Point_etchhouse_api_Point_of_drill_checkPoints_1 (x0 : List (Int × Int × Unit)) (hok : OkA I_slices_IndexFunc_etchhouse_api_Point_etchhouse_api_Point_of_drill_checkPoints_1.args (x0, (), ())) : ∃ n, bodyE ty T_slices_IndexFunc_etchhouse_api_Point_etchhouse_api_Point_of_drill_checkPoints_1 n I_slices_IndexFunc_etchhouse_api_Point_etchhouse_api_Point_of_drill_checkPoints_1 (x0, (), ()) = some ((S_idxPt x0 0, ()), ((), (), ())) := ⟨x0.length + 1, by
  obtain ⟨⟨hl, _⟩, _⟩ := hok
  rw [B_slices_IndexFunc_etchhouse_api_Point_etchhouse_api_Point_of_drill_checkPoints_1_eq]
  unfold B_slices_IndexFunc_etchhouse_api_Point_etchhouse_api_Point_of_drill_checkPoints_1
  refine (loop_list (l := x0) (fun i (_ : Unit) => ((i, ()), ())) (fun a i _ => bif S_isPt a then .inl () else .inr (some (((i : Int), ()), ((), (), ())))) (fun _ => some ((-1, ()), ((), (), ()))) (fun i h s rec => ?_) (fun s rec => ?_) (Nat.lt_succ_self _) ()).trans ?_
  · simp only [lt_nat h, inB_nat h, getD_lt h, succ64 h hl, cond_true]
    cases S_isPt x0[i] <;> rfl
  · simp only [lt_self, cond_false]
  · have : ∀ (l : List (Int × Int × Unit)) i, goL (fun a i (_ : Unit) => bif S_isPt a then .inl () else .inr (some (((i : Int), ()), ((), (), ())))) (fun _ => some ((-1, ()), ((), (), ()))) l i () = some ((S_idxPt l i, ()), ((), (), ())) := by
      intro l
      induction l with
      | nil => intro i; rfl
      | cons a r ih =>
        intro i
        simp only [goL, S_idxPt]
        cases S_isPt a with
        | true => simpa using ih (i + 1)
        | false => rfl
    exact this x0 0⟩
noncomputable def E_slices_IndexFunc_etchhouse_api_Point_etchhouse_api_Point_of_drill_checkPoints_1 : Entry Try.prog := Entry.of tok T_slices_IndexFunc_etchhouse_api_Point_etchhouse_api_Point_of_drill_checkPoints_1 I_slices_IndexFunc_etchhouse_api_Point_etchhouse_api_Point_of_drill_checkPoints_1 it_slices_IndexFunc_etchhouse_api_Point_etchhouse_api_Point_of_drill_checkPoints_1 (fun (x0, (), ()) => some ((S_idxPt x0 0, ()), ((), (), ()))) (fun (x0, (), ()) r hok h => by cases h; exact ok_slices_IndexFunc_etchhouse_api_Point_etchhouse_api_Point_of_drill_checkPoints_1 x0 hok)

end Go.Proofs.Ytlibmodfpkhdpaa
namespace Go.Proofs.Ytlibmodfpkhdpaa
open Go Go.VM
/-! ### slices.ContainsFunc[[]etchhouse.api.Point,etchhouse.api.Point] -/
noncomputable def I_slices_ContainsFunc_etchhouse_api_Point_etchhouse_api_Point_of_drill_checkPoints_1 : Inst := ⟨46, Try.f46, .two (.reg []) (.two (.reg [(2, 0)]) (.leaf)), (.cons (.pv (.sl (.pair i (.pair i .unit)))) (.cons (.fn 47 .nil) .nil)), (.cons .flat .bool .nil)⟩
theorem it_slices_ContainsFunc_etchhouse_api_Point_etchhouse_api_Point_of_drill_checkPoints_1 : InTab Try.prog I_slices_ContainsFunc_etchhouse_api_Point_etchhouse_api_Point_of_drill_checkPoints_1 := ⟨Try.func46, by kernel_rfl, rfl⟩
noncomputable def T_slices_ContainsFunc_etchhouse_api_Point_etchhouse_api_Point_of_drill_checkPoints_1 : Nat → Entry Try.prog := nth (Entry.no Try.f0) [E_slices_IndexFunc_etchhouse_api_Point_etchhouse_api_Point_of_drill_checkPoints_1]
noncomputable def B_slices_ContainsFunc_etchhouse_api_Point_etchhouse_api_Point_of_drill_checkPoints_1 (x0 : List (Int × (Int × Unit))) (x1 : Unit) : Option (((Bool × Unit) × (Unit × (Unit × Unit)))) :=
  some ((decide ((0 ≤ S_idxPt x0 0)), ()), ((), ((), ())))
theorem B_slices_ContainsFunc_etchhouse_api_Point_etchhouse_api_Point_of_drill_checkPoints_1_eq (n : Nat) (x0 : List (Int × (Int × Unit))) (x1 : Unit) : bodyE ty T_slices_ContainsFunc_etchhouse_api_Point_etchhouse_api_Point_of_drill_checkPoints_1 n I_slices_ContainsFunc_etchhouse_api_Point_etchhouse_api_Point_of_drill_checkPoints_1 (x0, (x1, ())) = B_slices_ContainsFunc_etchhouse_api_Point_etchhouse_api_Point_of_drill_checkPoints_1 x0 x1 := by kernel_rfl
noncomputable def E_slices_ContainsFunc_etchhouse_api_Point_etchhouse_api_Point_of_drill_checkPoints_1 : Entry Try.prog := Entry.of tok T_slices_ContainsFunc_etchhouse_api_Point_etchhouse_api_Point_of_drill_checkPoints_1 I_slices_ContainsFunc_etchhouse_api_Point_etchhouse_api_Point_of_drill_checkPoints_1 it_slices_ContainsFunc_etchhouse_api_Point_etchhouse_api_Point_of_drill_checkPoints_1 (fun x => B_slices_ContainsFunc_etchhouse_api_Point_etchhouse_api_Point_of_drill_checkPoints_1 x.1 x.2.1) (fun (a0, a1, ()) r _ h => ⟨0, (B_slices_ContainsFunc_etchhouse_api_Point_etchhouse_api_Point_of_drill_checkPoints_1_eq 0 a0 a1).trans h⟩)

end Go.Proofs.Ytlibmodfpkhdpaa
namespace Go.Proofs.Ytlibmodfpkhdpaa
open Go Go.VM
/-! ### etchhouse.drill.checkPoints -/
noncomputable def I_drill_checkPoints : Inst := ⟨26, Try.f26, .two (.reg []) (.two (.two (.reg []) (.two (.two (.reg []) (.leaf)) (.leaf))) (.two (.two (.reg [(1, 0), (5, 1)]) (.two (.two (.reg []) (.leaf)) (.leaf))) (.two (.reg []) (.leaf)))), (.cons (.pv (.sl (.pair i (.pair i .unit)))) (.cons (.pv (.pair i (.pair i .unit))) (.cons (.pv i) .nil))), (.cons .flat i .nil)⟩
theorem it_drill_checkPoints : InTab Try.prog I_drill_checkPoints := ⟨Try.func26, by kernel_rfl, rfl⟩
noncomputable def T_drill_checkPoints : Nat → Entry Try.prog := nth (Entry.no Try.f0) [E_shape_IsPoint, E_slices_ContainsFunc_etchhouse_api_Point_etchhouse_api_Point_of_drill_checkPoints_1]
noncomputable def B_drill_checkPoints (x0 : List (Int × (Int × Unit))) (x1 : (Int × (Int × Unit))) (x2 : Int) : Option (((Int × Unit) × (Unit × (Unit × (Unit × Unit))))) :=
  (bif decide ((x2 < ((x0.length : Nat) : Int))) then
    some ((2, ()), ((), ((), ((), ()))))
  else
    (bif (!(S_isPt x1)) then
      some ((1, ()), ((), ((), ((), ()))))
    else
      ((B_slices_ContainsFunc_etchhouse_api_Point_etchhouse_api_Point_of_drill_checkPoints_1 x0 ()).bind fun ((r1aa, ()), ((), ((), ()))) =>
      (bif r1aa then
        some ((1, ()), ((), ((), ((), ()))))
      else
        some ((0, ()), ((), ((), ((), ()))))))))
theorem B_drill_checkPoints_eq (n : Nat) (x0 : List (Int × (Int × Unit))) (x1 : (Int × (Int × Unit))) (x2 : Int) : bodyE ty T_drill_checkPoints n I_drill_checkPoints (x0, (x1, (x2, ()))) = B_drill_checkPoints x0 x1 x2 := by kernel_rfl
def S_chk (l : List Pt) (p : Pt) (most : Int) : Int := bif decide (most < (l.length : Int)) then 2 else bif S_isPt p && l.all S_isPt then 0 else 1
theorem ok_drill_checkPoints (x0 : List Pt) (x1 : Pt) (x2 : Int) (hok : OkA I_drill_checkPoints.args (x0, x1, x2, ())) : ∃ n, bodyE ty T_drill_checkPoints n I_drill_checkPoints (x0, x1, x2, ()) = some ((S_chk x0 x1 x2, ()), ((), (), (), ())) := ⟨0, by
  rw [B_drill_checkPoints_eq]
  unfold B_drill_checkPoints S_chk
  cases decide (x2 < (x0.length : Int)) with
  | true => rfl
  | false =>
    cases S_isPt x1 with
    | false => rfl
    | true =>
      have : B_slices_ContainsFunc_etchhouse_api_Point_etchhouse_api_Point_of_drill_checkPoints_1 x0 () = some ((!x0.all S_isPt, ()), ((), ((), ()))) := by
        unfold B_slices_ContainsFunc_etchhouse_api_Point_etchhouse_api_Point_of_drill_checkPoints_1
        rw [idxPt_neg]
      simp only [cond_false, Bool.not_true, this, Option.bind_some, Bool.true_and]
      cases x0.all S_isPt <;> rfl⟩
noncomputable def E_drill_checkPoints : Entry Try.prog := Entry.of tok T_drill_checkPoints I_drill_checkPoints it_drill_checkPoints (fun (x0, x1, x2, ()) => some ((S_chk x0 x1 x2, ()), ((), (), (), ()))) (fun (x0, x1, x2, ()) r hok h => by cases h; exact ok_drill_checkPoints x0 x1 x2 hok)

end Go.Proofs.Ytlibmodfpkhdpaa
namespace Go.Proofs.Ytlibmodfpkhdpaa
open Go Go.VM
/-! ### etchhouse.drill.apart -/
noncomputable def I_drill_apart : Inst := ⟨34, Try.f34, .two (.reg []) (.two (.reg []) (.leaf)), (.cons (.pv i) (.cons (.pv i) .nil)), (.cons .flat i .nil)⟩
theorem it_drill_apart : InTab Try.prog I_drill_apart := ⟨Try.func34, by kernel_rfl, rfl⟩
noncomputable def T_drill_apart : Nat → Entry Try.prog := nth (Entry.no Try.f0) []
noncomputable def B_drill_apart (x0 : Int) (x1 : Int) : Option (((Int × Unit) × (Unit × (Unit × Unit)))) :=
  some (((bif decide ((wrapI .i64 (x0 - x1) < wrapI .i64 (x1 - x0))) then wrapI .i64 (x1 - x0) else wrapI .i64 (x0 - x1)), ()), ((), ((), ())))
theorem B_drill_apart_eq (n : Nat) (x0 : Int) (x1 : Int) : bodyE ty T_drill_apart n I_drill_apart (x0, (x1, ())) = B_drill_apart x0 x1 := by kernel_rfl
def S_apart (a b : Int) : Int := bif decide (wrapI .i64 (a - b) < wrapI .i64 (b - a)) then wrapI .i64 (b - a) else wrapI .i64 (a - b)
theorem ok_drill_apart (x0 x1 : Int) (hok : OkA I_drill_apart.args (x0, x1, ())) : ∃ n, bodyE ty T_drill_apart n I_drill_apart (x0, x1, ()) = some ((S_apart x0 x1, ()), ((), (), ())) := ⟨0, by rw [B_drill_apart_eq]; rfl⟩
noncomputable def E_drill_apart : Entry Try.prog := Entry.of tok T_drill_apart I_drill_apart it_drill_apart (fun (x0, x1, ()) => some ((S_apart x0 x1, ()), ((), (), ()))) (fun (x0, x1, ()) r hok h => by cases h; exact ok_drill_apart x0 x1 hok)

end Go.Proofs.Ytlibmodfpkhdpaa
namespace Go.Proofs.Ytlibmodfpkhdpaa
open Go Go.VM
/-! ### etchhouse.drill.far -/
noncomputable def I_drill_far : Inst := ⟨39, Try.f39, .two (.reg []) (.two (.draw [(4, 0), (9, 0)] [0, 1, 2, 3, 5, 6, 7, 8, 4, 9, 10, 11] [3, 2]) (.leaf)), (.cons (.pv (.pair i (.pair i .unit))) (.cons (.pv (.pair i (.pair i .unit))) .nil)), (.cons .flat i .nil)⟩
theorem it_drill_far : InTab Try.prog I_drill_far := ⟨Try.func39, by kernel_rfl, rfl⟩
noncomputable def T_drill_far : Nat → Entry Try.prog := nth (Entry.no Try.f0) [E_drill_apart]
noncomputable def B_drill_far (x0 : (Int × (Int × Unit))) (x1 : (Int × (Int × Unit))) : Option (((Int × Unit) × (Unit × (Unit × Unit)))) :=
  some (((bif decide ((S_apart x0.1 x1.1 < S_apart x0.2.1 x1.2.1)) then S_apart x0.2.1 x1.2.1 else S_apart x0.1 x1.1), ()), ((), ((), ())))
theorem B_drill_far_eq (n : Nat) (x0 : (Int × (Int × Unit))) (x1 : (Int × (Int × Unit))) : bodyE ty T_drill_far n I_drill_far (x0, (x1, ())) = B_drill_far x0 x1 := by kernel_rfl
def S_far (p q : Pt) : Int := bif decide (S_apart p.1 q.1 < S_apart p.2.1 q.2.1) then S_apart p.2.1 q.2.1 else S_apart p.1 q.1
theorem ok_drill_far (x0 x1 : Pt) (hok : OkA I_drill_far.args (x0, x1, ())) : ∃ n, bodyE ty T_drill_far n I_drill_far (x0, x1, ()) = some ((S_far x0 x1, ()), ((), (), ())) := ⟨0, by rw [B_drill_far_eq]; rfl⟩
noncomputable def E_drill_far : Entry Try.prog := Entry.of tok T_drill_far I_drill_far it_drill_far (fun (x0, x1, ()) => some ((S_far x0 x1, ()), ((), (), ()))) (fun (x0, x1, ()) r hok h => by cases h; exact ok_drill_far x0 x1 hok)

end Go.Proofs.Ytlibmodfpkhdpaa
namespace Go.Proofs.Ytlibmodfpkhdpaa
open Go Go.VM
/-! ### etchhouse.drill.way -/
noncomputable def I_drill_way : Inst := ⟨27, Try.f27, .two (.reg []) (.two (.reg []) (.two (.two (.reg []) (.one (.loop ⟨[(5, .pv i), (10, .pv i)], [(3, ⟨.flat, (.pair i (.pair i .unit)), true, false⟩)], [3, 8, 9], []⟩ (.two (.reg []) (.two (.two (.leaf) (.leaf)) (.two (.one (.two (.reg []) (.two (.reg [(3, 0)]) (.reg [])))) (.reg []))))))) (.two (.reg []) (.leaf)))), (.cons (.pv (.sl (.pair i (.pair i .unit)))) (.cons (.pv (.pair i (.pair i .unit))) .nil)), (.cons .flat i .nil)⟩
theorem it_drill_way : InTab Try.prog I_drill_way := ⟨Try.func27, by kernel_rfl, rfl⟩
noncomputable def T_drill_way : Nat → Entry Try.prog := nth (Entry.no Try.f0) [E_drill_far]
noncomputable def B_drill_way (n : Nat) (x0 : List (Int × (Int × Unit))) (x1 : (Int × (Int × Unit))) : Option (((Int × Unit) × (Unit × (Unit × Unit)))) :=
  loopN (fun rec1 => fun
  | ((v1aa, (v1aba, ())), ((v1baa, (v1baba, ())), ())) =>
    (bif decide ((v1aba < ((x0.length : Nat) : Int))) then
      (bif inB v1aba x0.length then
        rec1 ((wrapI .i64 (v1aa + S_far (v1baa, (v1baba, ())) (x0.getD v1aba.toNat (0, (0, ())))), (wrapI .i64 (v1aba + 1), ())), (x0.getD v1aba.toNat (0, (0, ())), ()))
      else
        none)
    else
      some ((v1aa, ()), ((), ((), ())))))
  n ((0, (0, ())), (x1, ()))
theorem B_drill_way_eq (n : Nat) (x0 : List (Int × (Int × Unit))) (x1 : (Int × (Int × Unit))) : bodyE ty T_drill_way n I_drill_way (x0, (x1, ())) = B_drill_way n x0 x1 := by kernel_rfl
theorem ok_drill_way (x0 : List Pt) (x1 : Pt) (hok : OkA I_drill_way.args (x0, x1, ())) : ∃ n, bodyE ty T_drill_way n I_drill_way (x0, x1, ()) = some ((S_way S_far x0 x1, ()), ((), (), ())) := ⟨x0.length + 1, by
  obtain ⟨⟨hl, _⟩, _⟩ := hok
  rw [B_drill_way_eq]
  unfold B_drill_way
  refine (loop_fold (l := x0) (fun i (s : Int × Pt) => ((s.1, (i, ())), (s.2, ()))) (fun _ _ => True) (wayF S_far) (fun s => some ((s.1, ()), ((), (), ()))) (fun i h s _ => ?_) (fun s _ rec => ?_) (Nat.lt_succ_self _) (s := (0, x1)) trivial)
  · obtain ⟨s, a, b, ⟨⟩⟩ := s
    exact ⟨trivial, fun rec => by simp only [lt_nat h, inB_nat h, getD_lt h, succ64 h hl, cond_true]; rfl⟩
  · obtain ⟨s, a, b, ⟨⟩⟩ := s
    simp only [lt_self, cond_false]⟩
noncomputable def E_drill_way : Entry Try.prog := Entry.of tok T_drill_way I_drill_way it_drill_way (fun (x0, x1, ()) => some ((S_way S_far x0 x1, ()), ((), (), ()))) (fun (x0, x1, ()) r hok h => by cases h; exact ok_drill_way x0 x1 hok)

end Go.Proofs.Ytlibmodfpkhdpaa
namespace Go.Proofs.Ytlibmodfpkhdpaa
open Go Go.VM
/-! ### etchhouse.drill.Way -/
noncomputable def I_drill_Way : Inst := ⟨9, Try.f9, .two (.reg []) (.two (.two (.reg [(2, 0)]) (.two (.reg []) (.two (.two (.reg []) (.leaf)) (.leaf)))) (.two (.reg [(2, 1)]) (.leaf))), (.cons (.pv (.sl (.pair i (.pair i .unit)))) (.cons (.pv (.pair i (.pair i .unit))) .nil)), (.cons .flat i (.cons .flat i .nil))⟩
theorem it_drill_Way : InTab Try.prog I_drill_Way := ⟨Try.func9, by kernel_rfl, rfl⟩
noncomputable def T_drill_Way : Nat → Entry Try.prog := nth (Entry.no Try.f0) [E_drill_checkPoints, E_drill_way]
noncomputable def B_drill_Way (x0 : List (Int × (Int × Unit))) (x1 : (Int × (Int × Unit))) : Option (((Int × (Int × Unit)) × (Unit × (Unit × Unit)))) :=
  (bif (!(decide ((S_chk x0 x1 2000 = 0)))) then
    some ((0, (S_chk x0 x1 2000, ())), ((), ((), ())))
  else
    some ((S_way S_far x0 x1, (0, ())), ((), ((), ()))))
theorem B_drill_Way_eq (n : Nat) (x0 : List (Int × (Int × Unit))) (x1 : (Int × (Int × Unit))) : bodyE ty T_drill_Way n I_drill_Way (x0, (x1, ())) = B_drill_Way x0 x1 := by kernel_rfl
def S_WayP (x0 : List Pt) (x1 : Pt) : Int × Int := bif decide (S_chk x0 x1 2000 = 0) then (S_way S_far x0 x1, 0) else (0, S_chk x0 x1 2000)
theorem ok_drill_Way (x0 : List Pt) (x1 : Pt) (hok : OkA I_drill_Way.args (x0, x1, ())) : ∃ n, bodyE ty T_drill_Way n I_drill_Way (x0, x1, ()) = some (((S_WayP x0 x1).1, (S_WayP x0 x1).2, ()), ((), (), ())) := ⟨0, by
  rw [B_drill_Way_eq]
  unfold B_drill_Way S_WayP
  cases decide (S_chk x0 x1 2000 = 0) <;> rfl⟩
noncomputable def E_drill_Way : Entry Try.prog := Entry.of tok T_drill_Way I_drill_Way it_drill_Way (fun (x0, x1, ()) => some (((S_WayP x0 x1).1, (S_WayP x0 x1).2, ()), ((), (), ()))) (fun (x0, x1, ()) r hok h => by cases h; exact ok_drill_Way x0 x1 hok)

end Go.Proofs.Ytlibmodfpkhdpaa
namespace Go.Proofs.Ytlibmodfpkhdpaa
open Go Go.VM
/-! ### etchhouse.etchhouseref8.within -/
noncomputable def I_etchhouseref8_within : Inst := ⟨37, Try.f37, .two (.reg []) (.two (.reg []) (.leaf)), (.cons (.pv i) (.cons (.pv i) (.cons (.pv i) .nil))), (.cons .flat .bool .nil)⟩
theorem it_etchhouseref8_within : InTab Try.prog I_etchhouseref8_within := ⟨Try.func37, by kernel_rfl, rfl⟩
noncomputable def T_etchhouseref8_within : Nat → Entry Try.prog := nth (Entry.no Try.f0) []
noncomputable def B_etchhouseref8_within (x0 : Int) (x1 : Int) (x2 : Int) : Option (((Bool × Unit) × (Unit × (Unit × (Unit × Unit))))) :=
  (bif decide ((x1 ≤ x0)) then
    some ((decide ((x0 ≤ x2)), ()), ((), ((), ((), ()))))
  else
    some ((false, ()), ((), ((), ((), ())))))
theorem B_etchhouseref8_within_eq (n : Nat) (x0 : Int) (x1 : Int) (x2 : Int) : bodyE ty T_etchhouseref8_within n I_etchhouseref8_within (x0, (x1, (x2, ()))) = B_etchhouseref8_within x0 x1 x2 := by kernel_rfl
def S_withinR (n lo hi : Int) : Bool := decide (lo ≤ n) && decide (n ≤ hi)
theorem ok_etchhouseref8_within (x0 x1 x2 : Int) (hok : OkA I_etchhouseref8_within.args (x0, x1, x2, ())) : ∃ n, bodyE ty T_etchhouseref8_within n I_etchhouseref8_within (x0, x1, x2, ()) = some ((S_withinR x0 x1 x2, ()), ((), (), (), ())) := ⟨0, by
  rw [B_etchhouseref8_within_eq]; unfold B_etchhouseref8_within S_withinR; cases decide (x1 ≤ x0) <;> rfl⟩
noncomputable def E_etchhouseref8_within : Entry Try.prog := Entry.of tok T_etchhouseref8_within I_etchhouseref8_within it_etchhouseref8_within (fun (x0, x1, x2, ()) => some ((S_withinR x0 x1 x2, ()), ((), (), (), ()))) (fun (x0, x1, x2, ()) r hok h => by cases h; exact ok_etchhouseref8_within x0 x1 x2 hok)

end Go.Proofs.Ytlibmodfpkhdpaa
namespace Go.Proofs.Ytlibmodfpkhdpaa
open Go Go.VM
/-! ### etchhouse.etchhouseref8.isPoint -/
noncomputable def I_etchhouseref8_isPoint : Inst := ⟨48, Try.f48, .two (.reg []) (.two (.reg [(2, 0), (6, 0)]) (.leaf)), (.cons (.pv (.pair i (.pair i .unit))) .nil), (.cons .flat .bool .nil)⟩
theorem it_etchhouseref8_isPoint : InTab Try.prog I_etchhouseref8_isPoint := ⟨Try.func48, by kernel_rfl, rfl⟩
noncomputable def T_etchhouseref8_isPoint : Nat → Entry Try.prog := nth (Entry.no Try.f0) [E_etchhouseref8_within]
noncomputable def B_etchhouseref8_isPoint (x0 : (Int × (Int × Unit))) : Option (((Bool × Unit) × (Unit × Unit))) :=
  (bif S_withinR x0.1 (-1000000) 1000000 then
    some ((S_withinR x0.2.1 (-1000000) 1000000, ()), ((), ()))
  else
    some ((false, ()), ((), ())))
theorem B_etchhouseref8_isPoint_eq (n : Nat) (x0 : (Int × (Int × Unit))) : bodyE ty T_etchhouseref8_isPoint n I_etchhouseref8_isPoint (x0, ()) = B_etchhouseref8_isPoint x0 := by kernel_rfl
def S_isPtR (p : Int × Int × Unit) : Bool := S_withinR p.1 (-1000000) 1000000 && S_withinR p.2.1 (-1000000) 1000000
theorem ok_etchhouseref8_isPoint (x0 : Int × Int × Unit) (hok : OkA I_etchhouseref8_isPoint.args (x0, ())) : ∃ n, bodyE ty T_etchhouseref8_isPoint n I_etchhouseref8_isPoint (x0, ()) = some ((S_isPtR x0, ()), ((), ())) := ⟨0, by
  rw [B_etchhouseref8_isPoint_eq]; unfold B_etchhouseref8_isPoint S_isPtR; cases S_withinR x0.1 (-1000000) 1000000 <;> rfl⟩
noncomputable def E_etchhouseref8_isPoint : Entry Try.prog := Entry.of tok T_etchhouseref8_isPoint I_etchhouseref8_isPoint it_etchhouseref8_isPoint (fun (x0, ()) => some ((S_isPtR x0, ()), ((), ()))) (fun (x0, ()) r hok h => by cases h; exact ok_etchhouseref8_isPoint x0 hok)

end Go.Proofs.Ytlibmodfpkhdpaa
namespace Go.Proofs.Ytlibmodfpkhdpaa
open Go Go.VM
/-! ### etchhouse.etchhouseref8.askPoints -/
noncomputable def I_etchhouseref8_askPoints : Inst := ⟨28, Try.f28, .two (.reg []) (.two (.two (.reg []) (.two (.two (.reg []) (.leaf)) (.leaf))) (.two (.two (.reg []) (.one (.loop ⟨[(18, .pv i)], [], [16, 17], [16]⟩ (.two (.reg []) (.two (.two (.leaf) (.leaf)) (.two (.one (.two (.reg []) (.two (.reg [(1, 0)]) (.two (.two (.reg []) (.leaf)) (.leaf))))) (.reg []))))))) (.two (.reg []) (.leaf)))), (.cons (.pv (.sl (.pair i (.pair i .unit)))) (.cons (.pv (.pair i (.pair i .unit))) (.cons (.pv i) .nil))), (.cons .flat i .nil)⟩
theorem it_etchhouseref8_askPoints : InTab Try.prog I_etchhouseref8_askPoints := ⟨Try.func28, by kernel_rfl, rfl⟩
noncomputable def T_etchhouseref8_askPoints : Nat → Entry Try.prog := nth (Entry.no Try.f0) [E_etchhouseref8_isPoint]
noncomputable def B_etchhouseref8_askPoints (n : Nat) (x0 : List (Int × (Int × Unit))) (x1 : (Int × (Int × Unit))) (x2 : Int) : Option (((Int × Unit) × (Unit × (Unit × (Unit × Unit))))) :=
  (bif decide ((x2 < ((x0.length : Nat) : Int))) then
    some ((2, ()), ((), ((), ((), ()))))
  else
    (bif decide (((1 + x0.length) ≤ 4294967296)) then
      loopN (fun rec1 => fun
      | ((v1aa, ()), ()) =>
        (bif decide ((v1aa < (((x1 :: x0).length : Nat) : Int))) then
          (bif inB v1aa ((x1 :: x0).length) then
            (bif (!(S_isPtR ((x1 :: x0).getD v1aa.toNat (0, (0, ()))))) then
              some ((1, ()), ((), ((), ((), ()))))
            else
              rec1 ((wrapI .i64 (v1aa + 1), ()), ()))
          else
            none)
        else
          some ((0, ()), ((), ((), ((), ()))))))
      n ((0, ()), ())
    else
      none))
theorem B_etchhouseref8_askPoints_eq (n : Nat) (x0 : List (Int × (Int × Unit))) (x1 : (Int × (Int × Unit))) (x2 : Int) : bodyE ty T_etchhouseref8_askPoints n I_etchhouseref8_askPoints (x0, (x1, (x2, ()))) = B_etchhouseref8_askPoints n x0 x1 x2 := by kernel_rfl
def S_ask (l : List Pt) (p : Pt) (most : Int) : Int := bif decide (most < (l.length : Int)) then 2 else bif (p :: l).all S_isPtR then 0 else 1
def S_askO (x0 : List Pt) (x1 : Pt) (x2 : Int) : Option ((Int × Unit) × Unit × Unit × Unit × Unit) := bif decide (x2 ≤ 1000000) then some ((S_ask x0 x1 x2, ()), ((), (), (), ())) else none
theorem ok_etchhouseref8_askPoints (x0 : List Pt) (x1 : Pt) (x2 : Int) (hok : OkA I_etchhouseref8_askPoints.args (x0, x1, x2, ())) (r) (h : S_askO x0 x1 x2 = some r) : ∃ n, bodyE ty T_etchhouseref8_askPoints n I_etchhouseref8_askPoints (x0, x1, x2, ()) = some r := ⟨x0.length + 2, by
  obtain ⟨⟨hl, _⟩, _⟩ := hok
  have hl : x0.length ≤ maxLen := hl
  rw [B_etchhouseref8_askPoints_eq]
  unfold B_etchhouseref8_askPoints
  unfold S_askO at h
  cases hd : decide (x2 ≤ 1000000) with
  | false => rw [hd] at h; cases h
  | true =>
    rw [hd, cond_true] at h
    rw [← h]
    have hd := of_decide_eq_true hd
    unfold S_ask
    cases hc : decide (x2 < (x0.length : Int)) with
    | true => rfl
    | false =>
      simp only [decide_eq_false_iff_not] at hc
      have c1 : decide (1 + x0.length ≤ 4294967296) = true := by simp; omega
      simp only [cond_false, c1, cond_true]
      have hl2 : (x1 :: x0).length ≤ maxLen := by simp [maxLen]; omega
      refine (loop_list (l := x1 :: x0) (fun i (_ : Unit) => ((i, ()), ())) (fun a i _ => bif S_isPtR a then .inl () else .inr (some ((1, ()), ((), (), (), ())))) (fun _ => some ((0, ()), ((), (), (), ()))) (fun i h s rec => ?_) (fun s rec => ?_) (by simp) ()).trans ?_
      · simp only [lt_nat h, inB_nat h, getD_lt h, succ64 h hl2, cond_true]
        cases S_isPtR (x1 :: x0)[i] <;> rfl
      · simp only [lt_self, cond_false]
      · have : ∀ (l : List Pt) i, goL (fun a i (_ : Unit) => bif S_isPtR a then .inl () else .inr (some (((1 : Int), ()), ((), (), (), ())))) (fun _ => some (((0 : Int), ()), ((), (), (), ()))) l i () = some ((bif l.all S_isPtR then 0 else 1, ()), ((), (), (), ())) := by
          intro l
          induction l with
          | nil => intro i; rfl
          | cons a r ih =>
            intro i
            simp only [goL, List.all_cons]
            cases S_isPtR a with
            | true => simpa using ih (i + 1)
            | false => rfl
        exact this (x1 :: x0) 0⟩
noncomputable def E_etchhouseref8_askPoints : Entry Try.prog := Entry.of tok T_etchhouseref8_askPoints I_etchhouseref8_askPoints it_etchhouseref8_askPoints (fun (x0, x1, x2, ()) => S_askO x0 x1 x2) (fun (x0, x1, x2, ()) r hok h => ok_etchhouseref8_askPoints x0 x1 x2 hok r h)
theorem askO_eq (l : List Pt) (p : Pt) {m : Int} (h : m ≤ 1000000) : S_askO l p m = some ((S_ask l p m, ()), ((), (), (), ())) := by unfold S_askO; rw [decide_eq_true h]; rfl

end Go.Proofs.Ytlibmodfpkhdpaa
namespace Go.Proofs.Ytlibmodfpkhdpaa
open Go Go.VM
/-! ### etchhouse.etchhouseref8.abs -/
noncomputable def I_etchhouseref8_abs : Inst := ⟨49, Try.f49, .two (.reg []) (.two (.reg []) (.leaf)), (.cons (.pv i) .nil), (.cons .flat i .nil)⟩
theorem it_etchhouseref8_abs : InTab Try.prog I_etchhouseref8_abs := ⟨Try.func49, by kernel_rfl, rfl⟩
noncomputable def T_etchhouseref8_abs : Nat → Entry Try.prog := nth (Entry.no Try.f0) []
noncomputable def B_etchhouseref8_abs (x0 : Int) : Option (((Int × Unit) × (Unit × Unit))) :=
  some (((bif decide ((x0 < wrapI .i64 (0 - x0))) then wrapI .i64 (0 - x0) else x0), ()), ((), ()))
theorem B_etchhouseref8_abs_eq (n : Nat) (x0 : Int) : bodyE ty T_etchhouseref8_abs n I_etchhouseref8_abs (x0, ()) = B_etchhouseref8_abs x0 := by kernel_rfl
def S_abs (a : Int) : Int := bif decide (a < wrapI .i64 (0 - a)) then wrapI .i64 (0 - a) else a
theorem ok_etchhouseref8_abs (x0 : Int) (hok : OkA I_etchhouseref8_abs.args (x0, ())) : ∃ n, bodyE ty T_etchhouseref8_abs n I_etchhouseref8_abs (x0, ()) = some ((S_abs x0, ()), ((), ())) := ⟨0, by rw [B_etchhouseref8_abs_eq]; rfl⟩
noncomputable def E_etchhouseref8_abs : Entry Try.prog := Entry.of tok T_etchhouseref8_abs I_etchhouseref8_abs it_etchhouseref8_abs (fun (x0, ()) => some ((S_abs x0, ()), ((), ()))) (fun (x0, ()) r hok h => by cases h; exact ok_etchhouseref8_abs x0 hok)

end Go.Proofs.Ytlibmodfpkhdpaa
namespace Go.Proofs.Ytlibmodfpkhdpaa
open Go Go.VM
/-! ### etchhouse.etchhouseref8.distance -/
noncomputable def I_etchhouseref8_distance : Inst := ⟨29, Try.f29, .two (.reg []) (.two (.draw [(5, 0), (11, 0)] [0, 1, 2, 3, 4, 6, 7, 8, 9, 10, 5, 11, 12, 13] [3, 2]) (.leaf)), (.cons (.pv (.pair i (.pair i .unit))) (.cons (.pv (.pair i (.pair i .unit))) .nil)), (.cons .flat i .nil)⟩
theorem it_etchhouseref8_distance : InTab Try.prog I_etchhouseref8_distance := ⟨Try.func29, by kernel_rfl, rfl⟩
noncomputable def T_etchhouseref8_distance : Nat → Entry Try.prog := nth (Entry.no Try.f0) [E_etchhouseref8_abs]
noncomputable def B_etchhouseref8_distance (x0 : (Int × (Int × Unit))) (x1 : (Int × (Int × Unit))) : Option (((Int × Unit) × (Unit × (Unit × Unit)))) :=
  some (((bif decide ((S_abs (wrapI .i64 (x0.1 - x1.1)) < S_abs (wrapI .i64 (x0.2.1 - x1.2.1)))) then S_abs (wrapI .i64 (x0.2.1 - x1.2.1)) else S_abs (wrapI .i64 (x0.1 - x1.1))), ()), ((), ((), ())))
theorem B_etchhouseref8_distance_eq (n : Nat) (x0 : (Int × (Int × Unit))) (x1 : (Int × (Int × Unit))) : bodyE ty T_etchhouseref8_distance n I_etchhouseref8_distance (x0, (x1, ())) = B_etchhouseref8_distance x0 x1 := by kernel_rfl
def S_dist (p q : Pt) : Int := bif decide (S_abs (wrapI .i64 (p.1 - q.1)) < S_abs (wrapI .i64 (p.2.1 - q.2.1))) then S_abs (wrapI .i64 (p.2.1 - q.2.1)) else S_abs (wrapI .i64 (p.1 - q.1))
theorem ok_etchhouseref8_distance (x0 x1 : Pt) (hok : OkA I_etchhouseref8_distance.args (x0, x1, ())) : ∃ n, bodyE ty T_etchhouseref8_distance n I_etchhouseref8_distance (x0, x1, ()) = some ((S_dist x0 x1, ()), ((), (), ())) := ⟨0, by rw [B_etchhouseref8_distance_eq]; rfl⟩
noncomputable def E_etchhouseref8_distance : Entry Try.prog := Entry.of tok T_etchhouseref8_distance I_etchhouseref8_distance it_etchhouseref8_distance (fun (x0, x1, ()) => some ((S_dist x0 x1, ()), ((), (), ()))) (fun (x0, x1, ()) r hok h => by cases h; exact ok_etchhouseref8_distance x0 x1 hok)

end Go.Proofs.Ytlibmodfpkhdpaa
namespace Go.Proofs.Ytlibmodfpkhdpaa
open Go Go.VM
/-! ### etchhouse.etchhouseref8.Way -/
noncomputable def I_etchhouseref8_Way : Inst := ⟨10, Try.f10, .two (.reg []) (.two (.two (.reg [(2, 0)]) (.two (.reg []) (.two (.two (.reg []) (.leaf)) (.leaf)))) (.two (.reg []) (.two (.two (.reg []) (.one (.loop ⟨[(7, .pv i), (18, .pv i)], [(3, ⟨.flat, (.pair i (.pair i .unit)), true, false⟩)], [3, 16, 17], []⟩ (.two (.reg []) (.two (.two (.leaf) (.leaf)) (.two (.one (.two (.reg []) (.two (.reg [(3, 1)]) (.reg [])))) (.reg []))))))) (.two (.reg []) (.leaf))))), (.cons (.pv (.sl (.pair i (.pair i .unit)))) (.cons (.pv (.pair i (.pair i .unit))) .nil)), (.cons .flat i (.cons .flat i .nil))⟩
theorem it_etchhouseref8_Way : InTab Try.prog I_etchhouseref8_Way := ⟨Try.func10, by kernel_rfl, rfl⟩
noncomputable def T_etchhouseref8_Way : Nat → Entry Try.prog := nth (Entry.no Try.f0) [E_etchhouseref8_askPoints, E_etchhouseref8_distance]
noncomputable def B_etchhouseref8_Way (n : Nat) (x0 : List (Int × (Int × Unit))) (x1 : (Int × (Int × Unit))) : Option (((Int × (Int × Unit)) × (Unit × (Unit × Unit)))) :=
  ((S_askO x0 x1 2000).bind fun ((r1aa, ()), ((), ((), ((), ())))) =>
  (bif (!(decide ((r1aa = 0)))) then
    some ((0, (r1aa, ())), ((), ((), ())))
  else
    loopN (fun rec2 => fun
    | ((v2aa, (v2aba, ())), ((v2baa, (v2baba, ())), ())) =>
      (bif decide ((v2aba < ((x0.length : Nat) : Int))) then
        (bif inB v2aba x0.length then
          rec2 ((wrapI .i64 (v2aa + S_dist (v2baa, (v2baba, ())) (x0.getD v2aba.toNat (0, (0, ())))), (wrapI .i64 (v2aba + 1), ())), (x0.getD v2aba.toNat (0, (0, ())), ()))
        else
          none)
      else
        some ((v2aa, (0, ())), ((), ((), ())))))
    n ((0, (0, ())), (x1, ()))))
theorem B_etchhouseref8_Way_eq (n : Nat) (x0 : List (Int × (Int × Unit))) (x1 : (Int × (Int × Unit))) : bodyE ty T_etchhouseref8_Way n I_etchhouseref8_Way (x0, (x1, ())) = B_etchhouseref8_Way n x0 x1 := by kernel_rfl
def S_WayR (x0 : List Pt) (x1 : Pt) : Int × Int := bif decide (S_ask x0 x1 2000 = 0) then (S_way S_dist x0 x1, 0) else (0, S_ask x0 x1 2000)
theorem ok_etchhouseref8_Way (x0 : List Pt) (x1 : Pt) (hok : OkA I_etchhouseref8_Way.args (x0, x1, ())) : ∃ n, bodyE ty T_etchhouseref8_Way n I_etchhouseref8_Way (x0, x1, ()) = some (((S_WayR x0 x1).1, (S_WayR x0 x1).2, ()), ((), (), ())) := ⟨x0.length + 1, by
  obtain ⟨⟨hl, _⟩, _⟩ := hok
  rw [B_etchhouseref8_Way_eq]
  unfold B_etchhouseref8_Way S_WayR
  rw [askO_eq _ _ (by omega)]
  simp only [Option.bind_some]
  cases hd : decide (S_ask x0 x1 2000 = 0) with
  | false => rfl
  | true =>
    simp only [Bool.not_true, cond_false, cond_true]
    refine (loop_fold (l := x0) (fun i (s : Int × Pt) => ((s.1, (i, ())), (s.2, ()))) (fun _ _ => True) (wayF S_dist) (fun s => some ((s.1, 0, ()), ((), (), ()))) (fun i h s _ => ?_) (fun s _ rec => ?_) (Nat.lt_succ_self _) (s := (0, x1)) trivial)
    · obtain ⟨s, a, b, ⟨⟩⟩ := s
      exact ⟨trivial, fun rec => by simp only [lt_nat h, inB_nat h, getD_lt h, succ64 h hl, cond_true]; rfl⟩
    · obtain ⟨s, a, b, ⟨⟩⟩ := s
      simp only [lt_self, cond_false]⟩
noncomputable def E_etchhouseref8_Way : Entry Try.prog := Entry.of tok T_etchhouseref8_Way I_etchhouseref8_Way it_etchhouseref8_Way (fun (x0, x1, ()) => some (((S_WayR x0 x1).1, (S_WayR x0 x1).2, ()), ((), (), ()))) (fun (x0, x1, ()) r hok h => by cases h; exact ok_etchhouseref8_Way x0 x1 hok)

end Go.Proofs.Ytlibmodfpkhdpaa
namespace Go.Proofs.Ytlibmodfpkhdpaa
open Go Go.VM
/-! ### etchhouse.drill.greedy -/
noncomputable def I_drill_greedy : Inst := ⟨30, Try.f30, .two (.reg []) (.two (.reg []) (.two (.reg []) (.two (.two (.reg []) (.one (.loop ⟨[(5, .st (.at (.rf 5 []))), (15, .pv i)], [(5, ⟨(.own .flat), (.sl i), false, false⟩), (3, ⟨.flat, (.pair i (.pair i .unit)), true, false⟩), (6, ⟨(.own .flat), (.sl .bool), false, false⟩)], [0, 3, 6, 14], []⟩ (.two (.reg []) (.two (.two (.leaf) (.leaf)) (.two (.one (.two (.reg []) (.two (.two (.reg []) (.one (.loop ⟨[(7, .pv i), (19, .pv i)], [], [0, 3, 5, 6, 14, 15, 17, 18], [3, 5, 6]⟩ (.two (.reg []) (.two (.two (.leaf) (.leaf)) (.two (.one (.two (.reg []) (.two (.draw [(11, 0), (17, 0)] [0, 1, 2, 3, 4, 5, 6, 7, 8, 9, 10, 12, 13, 14, 15, 16, 11, 17, 18, 19, 20] [9, 3, 6]) (.two (.reg []) (.leaf))))) (.reg []))))))) (.two (.reg []) (.draw [] [0, 1, 4, 5, 6, 7, 2, 3, 8, 9] [5, 3]))))) (.reg []))))))) (.two (.reg []) (.leaf))))), (.cons (.pv (.sl (.pair i (.pair i .unit)))) (.cons (.pv (.pair i (.pair i .unit))) .nil)), (.cons (.own .flat) (.sl i) .nil)⟩
theorem it_drill_greedy : InTab Try.prog I_drill_greedy := ⟨Try.func30, by kernel_rfl, rfl⟩
noncomputable def T_drill_greedy : Nat → Entry Try.prog := nth (Entry.no Try.f0) [E_drill_far]
noncomputable def B_drill_greedy (n : Nat) (x0 : List (Int × (Int × Unit))) (x1 : (Int × (Int × Unit))) : Option (((List Int × Unit) × (Unit × (Unit × Unit)))) :=
  (bif ((decide ((0 ≤ ((x0.length : Nat) : Int))) && decide ((((x0.length : Nat) : Int) ≤ ((x0.length : Nat) : Int)))) && decide ((((x0.length : Nat) : Int) ≤ 4294967296))) then
    loopN (fun rec1 => fun
    | ((v1aa, ()), (v1ba, ((v1bbaa, (v1bbaba, ())), (v1bbba, ())))) =>
      (bif decide ((v1aa < ((x0.length : Nat) : Int))) then
        loopN (fun rec2 => fun
        | ((v2aa, (v2aba, ())), ()) =>
          (bif decide ((v2aba < ((x0.length : Nat) : Int))) then
            (bif inB v2aba x0.length then
              (bif inB v2aba v1bbba.length then
                (bif (!(v1bbba.getD v2aba.toNat false)) then
                  (bif decide ((v2aa < 0)) then
                    rec2 ((v2aba, (wrapI .i64 (v2aba + 1), ())), ())
                  else
                    (bif inB v2aa x0.length then
                      (bif decide ((S_far (v1bbaa, (v1bbaba, ())) (x0.getD v2aba.toNat (0, (0, ()))) < S_far (v1bbaa, (v1bbaba, ())) (x0.getD v2aa.toNat (0, (0, ()))))) then
                        rec2 ((v2aba, (wrapI .i64 (v2aba + 1), ())), ())
                      else
                        rec2 ((v2aa, (wrapI .i64 (v2aba + 1), ())), ()))
                    else
                      none))
                else
                  rec2 ((v2aa, (wrapI .i64 (v2aba + 1), ())), ()))
              else
                none)
            else
              none)
          else
            (bif inB v2aa v1bbba.length then
              (bif inB v2aa x0.length then
                (bif decide (((v1ba.length + 1) ≤ 4294967296)) then
                  rec1 ((wrapI .i64 (v1aa + 1), ()), ((v1ba ++ [v2aa]), (x0.getD v2aa.toNat (0, (0, ())), (v1bbba.set v2aa.toNat true, ()))))
                else
                  none)
              else
                none)
            else
              none)))
        n (((-1), (0, ())), ())
      else
        some ((v1ba, ()), ((), ((), ())))))
    n ((0, ()), ([], (x1, (List.replicate (α := Bool) (((x0.length : Nat) : Int).toNat) false, ()))))
  else
    none)
theorem B_drill_greedy_eq (n : Nat) (x0 : List (Int × (Int × Unit))) (x1 : (Int × (Int × Unit))) : bodyE ty T_drill_greedy n I_drill_greedy (x0, (x1, ())) = B_drill_greedy n x0 x1 := by kernel_rfl
def S_greedyP (x0 : List Pt) (x1 : Pt) : Option ((List Int × Unit) × Unit × Unit × Unit) := bif decide (x0.length ≤ 4294967296) then (S_greedy S_far x0 x1).map (fun o => ((o, ()), ((), (), ()))) else none
theorem ok_drill_greedy (x0 : List Pt) (x1 : Pt) (hok : OkA I_drill_greedy.args (x0, x1, ())) (r) (h : S_greedyP x0 x1 = some r) : ∃ n, bodyE ty T_drill_greedy n I_drill_greedy (x0, x1, ()) = some r := ⟨x0.length + 1, by
  obtain ⟨⟨hl, _⟩, _⟩ := hok
  rw [B_drill_greedy_eq]
  unfold B_drill_greedy
  unfold S_greedyP at h
  cases hd : decide (x0.length ≤ 4294967296) with
  | false => rw [hd] at h; cases h
  | true =>
    rw [hd] at h
    have hd := of_decide_eq_true hd
    have c1 : ((decide ((0 : Int) ≤ ((x0.length : Nat) : Int)) && decide ((((x0.length : Nat) : Int) ≤ ((x0.length : Nat) : Int)))) && decide ((((x0.length : Nat) : Int) ≤ 4294967296))) = true := by simp; omega
    rw [c1, cond_true, ← h, cond_true]
    refine (loop_listI (l := x0) (fun i (s : List Int × Pt × List Bool) => ((i, ()), (s.1, (s.2.1, (s.2.2, ()))))) (fun i s => s.1.length = i ∧ s.2.2.length = x0.length) (greedyB S_far x0) (fun s => some ((s.1, ()), ((), (), ()))) (fun i h => ?_) (fun ⟨o, ⟨a, b, _⟩, u⟩ _ rec => by simp only [lt_self, cond_false]) (Nat.lt_succ_self _) (s := ([], x1, List.replicate x0.length false)) ⟨rfl, by simp⟩).trans ?_
    · rintro ⟨o, ⟨a, b, ⟨⟩⟩, u⟩ ⟨ho, hu⟩
      simp only at ho hu
      obtain ⟨p1, p2⟩ := pick_inv S_far x0 u (a, b, ())
      refine ⟨fun s' hs => ?_, fun rec => ?_⟩
      · simp only [greedyB] at hs
        cases hb : inB (S_pick S_far x0 u (a, b, ())) x0.length with
        | false => rw [hb] at hs; cases hs
        | true => rw [hb] at hs; cases hs; exact ⟨by simp [ho], by simp [hu]⟩
      · simp only [lt_nat h, cond_true]
        refine (loop_fold (l := x0) (fun i (s : Int) => ((s, (i, ())), ())) (fun i b => -1 ≤ b ∧ b < (i : Int)) (pickF S_far x0 u (a, b, ())) _ (fun k hk s hI => ⟨?_, fun rec2 => ?_⟩) (fun s _ rec2 => by simp only [lt_self, cond_false]; exact rfl) (Nat.lt_succ_self _) (s := -1) (by simp)).trans ?_
        · simp only [pickF]
          cases u.getD k false with
          | true => simp only [Bool.not_true, cond_false]; omega
          | false =>
            simp only [Bool.not_false, cond_true]
            cases decide (s < 0) with
            | true => simp only [cond_true]; omega
            | false =>
              simp only [cond_false]
              cases decide (S_far (a, b, ()) x0[k] < S_far (a, b, ()) (x0.getD s.toNat pt0)) with
              | true => simp only [cond_true]; omega
              | false => simp only [cond_false]; omega
        · simp only [lt_nat hk, inB_nat hk, inB_nat (show k < u.length by omega), getD_at hk, succ64 hk hl, cond_true, pickF, Int.toNat_natCast]
          cases u.getD k false with
          | true => simp only [Bool.not_true, cond_false]
          | false =>
            simp only [Bool.not_false, cond_true]
            cases hs0 : decide (s < 0) with
            | true => rfl
            | false =>
              simp only [decide_eq_false_iff_not] at hs0
              simp only [cond_false, inB_int (show 0 ≤ s by omega) (show s < (x0.length : Int) by omega), cond_true]
              show (bif decide (S_far (a, b, ()) x0[k] < S_far (a, b, ()) (x0.getD s.toNat pt0)) then _ else _) = _
              cases decide (S_far (a, b, ()) x0[k] < S_far (a, b, ()) (x0.getD s.toNat pt0)) <;> rfl
        · simp only [greedyB]
          rw [hu]
          change (bif inB (S_pick S_far x0 u (a, b, ())) x0.length then (bif inB (S_pick S_far x0 u (a, b, ())) x0.length then _ else _) else _) = _
          cases inB (S_pick S_far x0 u (a, b, ())) x0.length with
          | false => rfl
          | true =>
            have c3 : decide (o.length + 1 ≤ 4294967296) = true := by simp; omega
            simp only [cond_true, c3, succ64 h hl]
            rfl
    · exact greedy_map _ _ (fun o => ((o, ()), ((), (), ()))) _ _ _⟩
noncomputable def E_drill_greedy : Entry Try.prog := Entry.of tok T_drill_greedy I_drill_greedy it_drill_greedy (fun (x0, x1, ()) => S_greedyP x0 x1) (fun (x0, x1, ()) r hok h => ok_drill_greedy x0 x1 hok r h)

end Go.Proofs.Ytlibmodfpkhdpaa
namespace Go.Proofs.Ytlibmodfpkhdpaa
open Go Go.VM
/-! ### etchhouse.drill.Greedy -/
noncomputable def I_drill_Greedy : Inst := ⟨11, Try.f11, .two (.reg []) (.two (.two (.reg [(2, 0)]) (.two (.reg []) (.two (.two (.reg []) (.leaf)) (.leaf)))) (.two (.reg [(2, 1)]) (.leaf))), (.cons (.pv (.sl (.pair i (.pair i .unit)))) (.cons (.pv (.pair i (.pair i .unit))) .nil)), (.cons (.own .flat) (.sl i) (.cons .flat i .nil))⟩
theorem it_drill_Greedy : InTab Try.prog I_drill_Greedy := ⟨Try.func11, by kernel_rfl, rfl⟩
noncomputable def T_drill_Greedy : Nat → Entry Try.prog := nth (Entry.no Try.f0) [E_drill_checkPoints, E_drill_greedy]
noncomputable def B_drill_Greedy (x0 : List (Int × (Int × Unit))) (x1 : (Int × (Int × Unit))) : Option (((List Int × (Int × Unit)) × (Unit × (Unit × Unit)))) :=
  (bif (!(decide ((S_chk x0 x1 200 = 0)))) then
    some (([], (S_chk x0 x1 200, ())), ((), ((), ())))
  else
    ((S_greedyP x0 x1).bind fun ((r1aa, ()), ((), ((), ()))) =>
    some ((r1aa, (0, ())), ((), ((), ())))))
theorem B_drill_Greedy_eq (n : Nat) (x0 : List (Int × (Int × Unit))) (x1 : (Int × (Int × Unit))) : bodyE ty T_drill_Greedy n I_drill_Greedy (x0, (x1, ())) = B_drill_Greedy x0 x1 := by kernel_rfl
def S_GreedyP (x0 : List Pt) (x1 : Pt) : Option ((List Int × (Int × Unit)) × Unit × Unit × Unit) := bif decide (S_chk x0 x1 200 = 0) then (S_greedy S_far x0 x1).map (fun o => ((o, 0, ()), ((), (), ()))) else some (([], S_chk x0 x1 200, ()), ((), (), ()))
theorem ok_drill_Greedy (x0 : List Pt) (x1 : Pt) (hok : OkA I_drill_Greedy.args (x0, x1, ())) (r) (h : S_GreedyP x0 x1 = some r) : ∃ n, bodyE ty T_drill_Greedy n I_drill_Greedy (x0, x1, ()) = some r := ⟨0, by
  rw [B_drill_Greedy_eq, ← h]
  unfold B_drill_Greedy S_GreedyP
  cases hc : decide (S_chk x0 x1 200 = 0) with
  | false => rfl
  | true =>
    simp only [Bool.not_true, cond_false, cond_true]
    have hl : x0.length ≤ 200 := by
      have hc := of_decide_eq_true hc
      unfold S_chk at hc
      cases hd : decide ((200 : Int) < (x0.length : Int)) with
      | true => rw [hd] at hc; cases hc
      | false => simp only [decide_eq_false_iff_not] at hd; omega
    unfold S_greedyP
    rw [decide_eq_true (show x0.length ≤ 4294967296 by omega), cond_true]
    cases S_greedy S_far x0 x1 <;> rfl⟩
noncomputable def E_drill_Greedy : Entry Try.prog := Entry.of tok T_drill_Greedy I_drill_Greedy it_drill_Greedy (fun (x0, x1, ()) => S_GreedyP x0 x1) (fun (x0, x1, ()) r hok h => ok_drill_Greedy x0 x1 hok r h)

end Go.Proofs.Ytlibmodfpkhdpaa
namespace Go.Proofs.Ytlibmodfpkhdpaa
open Go Go.VM
/-! ### etchhouse.etchhouseref8.greedy -/
noncomputable def I_etchhouseref8_greedy : Inst := ⟨31, Try.f31, .two (.reg []) (.two (.reg []) (.two (.reg []) (.two (.two (.reg []) (.one (.loop ⟨[(6, .st (.at (.rf 6 []))), (15, .pv i)], [(6, ⟨(.own .flat), (.sl i), false, false⟩), (3, ⟨.flat, (.pair i (.pair i .unit)), true, false⟩), (5, ⟨(.own .flat), (.sl .bool), false, false⟩)], [0, 3, 5, 14], []⟩ (.two (.reg []) (.two (.two (.leaf) (.leaf)) (.two (.one (.two (.reg []) (.two (.two (.reg []) (.one (.loop ⟨[(7, .pv i), (19, .pv i)], [], [0, 3, 5, 6, 14, 15, 17, 18], [3, 5, 6]⟩ (.two (.reg []) (.two (.two (.leaf) (.leaf)) (.two (.one (.two (.reg []) (.two (.draw [(11, 0), (17, 0)] [0, 1, 2, 3, 4, 5, 6, 7, 8, 9, 10, 12, 13, 14, 15, 16, 11, 17, 18, 19, 20] [9, 3, 5]) (.two (.reg []) (.leaf))))) (.reg []))))))) (.two (.reg []) (.reg []))))) (.reg []))))))) (.two (.reg []) (.leaf))))), (.cons (.pv (.sl (.pair i (.pair i .unit)))) (.cons (.pv (.pair i (.pair i .unit))) .nil)), (.cons (.own .flat) (.sl i) .nil)⟩
theorem it_etchhouseref8_greedy : InTab Try.prog I_etchhouseref8_greedy := ⟨Try.func31, by kernel_rfl, rfl⟩
noncomputable def T_etchhouseref8_greedy : Nat → Entry Try.prog := nth (Entry.no Try.f0) [E_etchhouseref8_distance]
noncomputable def B_etchhouseref8_greedy (n : Nat) (x0 : List (Int × (Int × Unit))) (x1 : (Int × (Int × Unit))) : Option (((List Int × Unit) × (Unit × (Unit × Unit)))) :=
  (bif ((decide ((0 ≤ ((x0.length : Nat) : Int))) && decide ((((x0.length : Nat) : Int) ≤ ((x0.length : Nat) : Int)))) && decide ((((x0.length : Nat) : Int) ≤ 4294967296))) then
    loopN (fun rec1 => fun
    | ((v1aa, ()), (v1ba, ((v1bbaa, (v1bbaba, ())), (v1bbba, ())))) =>
      (bif decide ((v1aa < ((x0.length : Nat) : Int))) then
        loopN (fun rec2 => fun
        | ((v2aa, (v2aba, ())), ()) =>
          (bif decide ((v2aba < ((x0.length : Nat) : Int))) then
            (bif inB v2aba x0.length then
              (bif inB v2aba v1bbba.length then
                (bif (!(v1bbba.getD v2aba.toNat false)) then
                  (bif decide ((v2aa < 0)) then
                    rec2 ((v2aba, (wrapI .i64 (v2aba + 1), ())), ())
                  else
                    (bif inB v2aa x0.length then
                      (bif decide ((S_dist (v1bbaa, (v1bbaba, ())) (x0.getD v2aba.toNat (0, (0, ()))) < S_dist (v1bbaa, (v1bbaba, ())) (x0.getD v2aa.toNat (0, (0, ()))))) then
                        rec2 ((v2aba, (wrapI .i64 (v2aba + 1), ())), ())
                      else
                        rec2 ((v2aa, (wrapI .i64 (v2aba + 1), ())), ()))
                    else
                      none))
                else
                  rec2 ((v2aa, (wrapI .i64 (v2aba + 1), ())), ()))
              else
                none)
            else
              none)
          else
            (bif inB v2aa x0.length then
              (bif inB v2aa v1bbba.length then
                (bif decide (((v1ba.length + 1) ≤ 4294967296)) then
                  rec1 ((wrapI .i64 (v1aa + 1), ()), ((v1ba ++ [v2aa]), (x0.getD v2aa.toNat (0, (0, ())), (v1bbba.set v2aa.toNat true, ()))))
                else
                  none)
              else
                none)
            else
              none)))
        n (((-1), (0, ())), ())
      else
        some ((v1ba, ()), ((), ((), ())))))
    n ((0, ()), ([], (x1, (List.replicate (α := Bool) (((x0.length : Nat) : Int).toNat) false, ()))))
  else
    none)
theorem B_etchhouseref8_greedy_eq (n : Nat) (x0 : List (Int × (Int × Unit))) (x1 : (Int × (Int × Unit))) : bodyE ty T_etchhouseref8_greedy n I_etchhouseref8_greedy (x0, (x1, ())) = B_etchhouseref8_greedy n x0 x1 := by kernel_rfl
def S_greedyR (x0 : List Pt) (x1 : Pt) : Option ((List Int × Unit) × Unit × Unit × Unit) := bif decide (x0.length ≤ 4294967296) then (S_greedy S_dist x0 x1).map (fun o => ((o, ()), ((), (), ()))) else none
theorem ok_etchhouseref8_greedy (x0 : List Pt) (x1 : Pt) (hok : OkA I_etchhouseref8_greedy.args (x0, x1, ())) (r) (h : S_greedyR x0 x1 = some r) : ∃ n, bodyE ty T_etchhouseref8_greedy n I_etchhouseref8_greedy (x0, x1, ()) = some r := ⟨x0.length + 1, by
  obtain ⟨⟨hl, _⟩, _⟩ := hok
  rw [B_etchhouseref8_greedy_eq]
  unfold B_etchhouseref8_greedy
  unfold S_greedyR at h
  cases hd : decide (x0.length ≤ 4294967296) with
  | false => rw [hd] at h; cases h
  | true =>
    rw [hd] at h
    have hd := of_decide_eq_true hd
    have c1 : ((decide ((0 : Int) ≤ ((x0.length : Nat) : Int)) && decide ((((x0.length : Nat) : Int) ≤ ((x0.length : Nat) : Int)))) && decide ((((x0.length : Nat) : Int) ≤ 4294967296))) = true := by simp; omega
    rw [c1, cond_true, ← h, cond_true]
    refine (loop_listI (l := x0) (fun i (s : List Int × Pt × List Bool) => ((i, ()), (s.1, (s.2.1, (s.2.2, ()))))) (fun i s => s.1.length = i ∧ s.2.2.length = x0.length) (greedyB S_dist x0) (fun s => some ((s.1, ()), ((), (), ()))) (fun i h => ?_) (fun ⟨o, ⟨a, b, _⟩, u⟩ _ rec => by simp only [lt_self, cond_false]) (Nat.lt_succ_self _) (s := ([], x1, List.replicate x0.length false)) ⟨rfl, by simp⟩).trans ?_
    · rintro ⟨o, ⟨a, b, ⟨⟩⟩, u⟩ ⟨ho, hu⟩
      simp only at ho hu
      obtain ⟨p1, p2⟩ := pick_inv S_dist x0 u (a, b, ())
      refine ⟨fun s' hs => ?_, fun rec => ?_⟩
      · simp only [greedyB] at hs
        cases hb : inB (S_pick S_dist x0 u (a, b, ())) x0.length with
        | false => rw [hb] at hs; cases hs
        | true => rw [hb] at hs; cases hs; exact ⟨by simp [ho], by simp [hu]⟩
      · simp only [lt_nat h, cond_true]
        refine (loop_fold (l := x0) (fun i (s : Int) => ((s, (i, ())), ())) (fun i b => -1 ≤ b ∧ b < (i : Int)) (pickF S_dist x0 u (a, b, ())) _ (fun k hk s hI => ⟨?_, fun rec2 => ?_⟩) (fun s _ rec2 => by simp only [lt_self, cond_false]; exact rfl) (Nat.lt_succ_self _) (s := -1) (by simp)).trans ?_
        · simp only [pickF]
          cases u.getD k false with
          | true => simp only [Bool.not_true, cond_false]; omega
          | false =>
            simp only [Bool.not_false, cond_true]
            cases decide (s < 0) with
            | true => simp only [cond_true]; omega
            | false =>
              simp only [cond_false]
              cases decide (S_dist (a, b, ()) x0[k] < S_dist (a, b, ()) (x0.getD s.toNat pt0)) with
              | true => simp only [cond_true]; omega
              | false => simp only [cond_false]; omega
        · simp only [lt_nat hk, inB_nat hk, inB_nat (show k < u.length by omega), getD_at hk, succ64 hk hl, cond_true, pickF, Int.toNat_natCast]
          cases u.getD k false with
          | true => simp only [Bool.not_true, cond_false]
          | false =>
            simp only [Bool.not_false, cond_true]
            cases hs0 : decide (s < 0) with
            | true => rfl
            | false =>
              simp only [decide_eq_false_iff_not] at hs0
              simp only [cond_false, inB_int (show 0 ≤ s by omega) (show s < (x0.length : Int) by omega), cond_true]
              show (bif decide (S_dist (a, b, ()) x0[k] < S_dist (a, b, ()) (x0.getD s.toNat pt0)) then _ else _) = _
              cases decide (S_dist (a, b, ()) x0[k] < S_dist (a, b, ()) (x0.getD s.toNat pt0)) <;> rfl
        · simp only [greedyB]
          rw [hu]
          change (bif inB (S_pick S_dist x0 u (a, b, ())) x0.length then (bif inB (S_pick S_dist x0 u (a, b, ())) x0.length then _ else _) else _) = _
          cases inB (S_pick S_dist x0 u (a, b, ())) x0.length with
          | false => rfl
          | true =>
            have c3 : decide (o.length + 1 ≤ 4294967296) = true := by simp; omega
            simp only [cond_true, c3, succ64 h hl]
            rfl
    · exact greedy_map _ _ (fun o => ((o, ()), ((), (), ()))) _ _ _⟩
noncomputable def E_etchhouseref8_greedy : Entry Try.prog := Entry.of tok T_etchhouseref8_greedy I_etchhouseref8_greedy it_etchhouseref8_greedy (fun (x0, x1, ()) => S_greedyR x0 x1) (fun (x0, x1, ()) r hok h => ok_etchhouseref8_greedy x0 x1 hok r h)

end Go.Proofs.Ytlibmodfpkhdpaa
namespace Go.Proofs.Ytlibmodfpkhdpaa
open Go Go.VM
/-! ### etchhouse.etchhouseref8.Greedy -/
noncomputable def I_etchhouseref8_Greedy : Inst := ⟨12, Try.f12, .two (.reg []) (.two (.two (.reg [(2, 0)]) (.two (.reg []) (.two (.two (.reg []) (.leaf)) (.leaf)))) (.two (.reg [(2, 1)]) (.leaf))), (.cons (.pv (.sl (.pair i (.pair i .unit)))) (.cons (.pv (.pair i (.pair i .unit))) .nil)), (.cons (.own .flat) (.sl i) (.cons .flat i .nil))⟩
theorem it_etchhouseref8_Greedy : InTab Try.prog I_etchhouseref8_Greedy := ⟨Try.func12, by kernel_rfl, rfl⟩
noncomputable def T_etchhouseref8_Greedy : Nat → Entry Try.prog := nth (Entry.no Try.f0) [E_etchhouseref8_askPoints, E_etchhouseref8_greedy]
noncomputable def B_etchhouseref8_Greedy (x0 : List (Int × (Int × Unit))) (x1 : (Int × (Int × Unit))) : Option (((List Int × (Int × Unit)) × (Unit × (Unit × Unit)))) :=
  ((S_askO x0 x1 200).bind fun ((r1aa, ()), ((), ((), ((), ())))) =>
  (bif (!(decide ((r1aa = 0)))) then
    some (([], (r1aa, ())), ((), ((), ())))
  else
    ((S_greedyR x0 x1).bind fun ((r2aa, ()), ((), ((), ()))) =>
    some ((r2aa, (0, ())), ((), ((), ()))))))
theorem B_etchhouseref8_Greedy_eq (n : Nat) (x0 : List (Int × (Int × Unit))) (x1 : (Int × (Int × Unit))) : bodyE ty T_etchhouseref8_Greedy n I_etchhouseref8_Greedy (x0, (x1, ())) = B_etchhouseref8_Greedy x0 x1 := by kernel_rfl
def S_GreedyR (x0 : List Pt) (x1 : Pt) : Option ((List Int × (Int × Unit)) × Unit × Unit × Unit) := bif decide (S_ask x0 x1 200 = 0) then (S_greedy S_dist x0 x1).map (fun o => ((o, 0, ()), ((), (), ()))) else some (([], S_ask x0 x1 200, ()), ((), (), ()))
theorem ok_etchhouseref8_Greedy (x0 : List Pt) (x1 : Pt) (hok : OkA I_etchhouseref8_Greedy.args (x0, x1, ())) (r) (h : S_GreedyR x0 x1 = some r) : ∃ n, bodyE ty T_etchhouseref8_Greedy n I_etchhouseref8_Greedy (x0, x1, ()) = some r := ⟨0, by
  rw [B_etchhouseref8_Greedy_eq, ← h]
  unfold B_etchhouseref8_Greedy S_GreedyR
  rw [askO_eq _ _ (by omega)]
  simp only [Option.bind_some]
  cases hc : decide (S_ask x0 x1 200 = 0) with
  | false => rfl
  | true =>
    simp only [Bool.not_true, cond_false, cond_true]
    have hl : x0.length ≤ 200 := by
      have hc := of_decide_eq_true hc
      unfold S_ask at hc
      cases hd : decide ((200 : Int) < (x0.length : Int)) with
      | true => rw [hd] at hc; cases hc
      | false => simp only [decide_eq_false_iff_not] at hd; omega
    unfold S_greedyR
    rw [decide_eq_true (show x0.length ≤ 4294967296 by omega), cond_true]
    cases S_greedy S_dist x0 x1 <;> rfl⟩
noncomputable def E_etchhouseref8_Greedy : Entry Try.prog := Entry.of tok T_etchhouseref8_Greedy I_etchhouseref8_Greedy it_etchhouseref8_Greedy (fun (x0, x1, ()) => S_GreedyR x0 x1) (fun (x0, x1, ()) r hok h => ok_etchhouseref8_Greedy x0 x1 hok r h)

end Go.Proofs.Ytlibmodfpkhdpaa
namespace Go.Proofs.Ytlibmodfpkhdpaa
open Go Go.VM
/-! ### slices.Equal[[]int,int] -/
noncomputable def I_slices_Equal_int_int : Inst := ⟨13, Try.f13, .two (.reg []) (.two (.two (.reg []) (.two (.two (.reg []) (.leaf)) (.leaf))) (.two (.two (.reg []) (.one (.loop ⟨[(13, .pv i)], [], [0, 1, 12], []⟩ (.two (.reg []) (.two (.two (.leaf) (.leaf)) (.two (.one (.two (.reg []) (.two (.draw [] [0, 1, 2, 3, 4, 5, 6, 7, 8] []) (.two (.two (.reg []) (.leaf)) (.leaf))))) (.reg []))))))) (.two (.reg []) (.leaf)))), (.cons (.pv (.sl i)) (.cons (.pv (.sl i)) .nil)), (.cons .flat .bool .nil)⟩
theorem it_slices_Equal_int_int : InTab Try.prog I_slices_Equal_int_int := ⟨Try.func13, by kernel_rfl, rfl⟩
noncomputable def T_slices_Equal_int_int : Nat → Entry Try.prog := nth (Entry.no Try.f0) []
noncomputable def B_slices_Equal_int_int (n : Nat) (x0 : List Int) (x1 : List Int) : Option (((Bool × Unit) × (Unit × (Unit × Unit)))) :=
  (bif (!(decide ((((x0.length : Nat) : Int) = ((x1.length : Nat) : Int))))) then
    some ((false, ()), ((), ((), ())))
  else
    loopN (fun rec1 => fun
    | ((v1aa, ()), ()) =>
      (bif decide ((v1aa < ((x0.length : Nat) : Int))) then
        (bif inB v1aa x0.length then
          (bif inB v1aa x1.length then
            (bif (!(decide ((x0.getD v1aa.toNat 0 = x1.getD v1aa.toNat 0)))) then
              some ((false, ()), ((), ((), ())))
            else
              rec1 ((wrapI .i64 (v1aa + 1), ()), ()))
          else
            none)
        else
          none)
      else
        some ((true, ()), ((), ((), ())))))
    n ((0, ()), ()))
theorem B_slices_Equal_int_int_eq (n : Nat) (x0 : List Int) (x1 : List Int) : bodyE ty T_slices_Equal_int_int n I_slices_Equal_int_int (x0, (x1, ())) = B_slices_Equal_int_int n x0 x1 := by kernel_rfl
theorem eqL : ∀ (d i : Nat) (a b : List Int), i + d = a.length → a.length = b.length → ∀ n, d < n → a.length ≤ maxLen →
    loopN (fun rec2 => fun
    | ((v2aa, ()), ()) =>
      (bif decide ((v2aa < ((a.length : Nat) : Int))) then
        (bif inB v2aa a.length then
          (bif inB v2aa b.length then
            (bif (!(decide ((a.getD v2aa.toNat 0 = b.getD v2aa.toNat 0)))) then
              some ((false, ()), ((), (), ()))
            else
              rec2 ((wrapI .i64 (v2aa + 1), ()), ()))
          else
            none)
        else
          none)
      else
        some ((true, ()), ((), (), ())))) n ((((i : Nat) : Int), ()), ()) = some ((decide (a.drop i = b.drop i), ()), ((), (), ())) := by
  intro d
  induction d with
  | zero =>
    intro i a b hi hab n hn hl
    obtain ⟨m, rfl⟩ : ∃ m, n = m + 1 := ⟨n - 1, by omega⟩
    obtain rfl : i = a.length := by omega
    rw [loopN_succ]
    simp only [lt_self, cond_false]
    rw [List.drop_length, hab, List.drop_length]
    simp
  | succ d ih =>
    intro i a b hi hab n hn hl
    obtain ⟨m, rfl⟩ : ∃ m, n = m + 1 := ⟨n - 1, by omega⟩
    have h : i < a.length := by omega
    have h2 : i < b.length := by omega
    rw [loopN_succ]
    simp only [lt_nat h, inB_nat h, inB_nat h2, getD_lt h, getD_lt h2, succ64 h hl, cond_true]
    rw [ih (i + 1) a b (by omega) hab m (by omega) hl, List.drop_eq_getElem_cons h, List.drop_eq_getElem_cons h2]
    by_cases e : a[i] = b[i]
    · have : decide (a[i] = b[i]) = true := decide_eq_true e
      rw [this, Bool.not_true, cond_false]
      have : decide (a[i] :: List.drop (i + 1) a = b[i] :: List.drop (i + 1) b) = decide (List.drop (i + 1) a = List.drop (i + 1) b) := by simp only [e, List.cons.injEq, true_and]
      rw [this]
    · have : decide (a[i] = b[i]) = false := decide_eq_false e
      rw [this, Bool.not_false, cond_true]
      have : decide (a[i] :: List.drop (i + 1) a = b[i] :: List.drop (i + 1) b) = false := decide_eq_false fun c => e (List.cons.inj c).1
      rw [this]
theorem ok_slices_Equal_int_int (x0 x1 : List Int) (hok : OkA I_slices_Equal_int_int.args (x0, x1, ())) : ∃ n, bodyE ty T_slices_Equal_int_int n I_slices_Equal_int_int (x0, x1, ()) = some ((decide (x0 = x1), ()), ((), (), ())) := ⟨x0.length + 1, by
  obtain ⟨⟨hl, _⟩, _⟩ := hok
  rw [B_slices_Equal_int_int_eq]
  unfold B_slices_Equal_int_int
  by_cases e : x0.length = x1.length
  · have : decide (((x0.length : Nat) : Int) = ((x1.length : Nat) : Int)) = true := by simp [e]
    simp only [this, Bool.not_true, cond_false]
    exact eqL x0.length 0 x0 x1 (by omega) e _ (Nat.lt_succ_self _) hl
  · have : decide (((x0.length : Nat) : Int) = ((x1.length : Nat) : Int)) = false := by simp; omega
    simp only [this, Bool.not_false, cond_true]
    have : decide (x0 = x1) = false := by simp; intro c; exact e (by rw [c])
    rw [this]⟩
noncomputable def E_slices_Equal_int_int : Entry Try.prog := Entry.of tok T_slices_Equal_int_int I_slices_Equal_int_int it_slices_Equal_int_int (fun (x0, x1, ()) => some ((decide (x0 = x1), ()), ((), (), ()))) (fun (x0, x1, ()) r hok h => by cases h; exact ok_slices_Equal_int_int x0 x1 hok)

end Go.Proofs.Ytlibmodfpkhdpaa
namespace Go.Proofs.Ytlibmodfpkhdpaa
open Go Go.VM
/-! ### etchhouse.etchhouselaw8.awake -/
noncomputable def I_etchhouselaw8_awake : Inst := ⟨14, Try.f14, .two (.reg []) (.two (.reg [(5, 0)]) (.two (.reg []) (.leaf))), .nil, (.cons .flat .bool .nil)⟩
theorem it_etchhouselaw8_awake : InTab Try.prog I_etchhouselaw8_awake := ⟨Try.func14, by kernel_rfl, rfl⟩
noncomputable def T_etchhouselaw8_awake : Nat → Entry Try.prog := nth (Entry.no Try.f0) [E_drill_Way]
noncomputable def B_etchhouselaw8_awake  : Option (((Bool × Unit) × Unit)) :=
  some ((true, ()), ())
theorem B_etchhouselaw8_awake_eq (n : Nat)  : bodyE ty T_etchhouselaw8_awake n I_etchhouselaw8_awake () = B_etchhouselaw8_awake  := by kernel_rfl
noncomputable def E_etchhouselaw8_awake : Entry Try.prog := Entry.of tok T_etchhouselaw8_awake I_etchhouselaw8_awake it_etchhouselaw8_awake (fun x => B_etchhouselaw8_awake ) (fun () r _ h => ⟨0, (B_etchhouselaw8_awake_eq 0 ).trans h⟩)

end Go.Proofs.Ytlibmodfpkhdpaa
namespace Go.Proofs.Ytlibmodfpkhdpaa
open Go Go.VM
/-! ### etchhouse.etchhouselaw8.DrillWaysMatchSpec -/
noncomputable def I_etchhouselaw8_DrillWaysMatchSpec : Inst := ⟨3, Try.f3, .two (.reg []) (.two (.reg [(2, 0)]) (.two (.reg [(2, 1)]) (.two (.two (.reg []) (.two (.two (.reg []) (.leaf)) (.leaf))) (.two (.reg [(2, 2)]) (.two (.reg [(2, 3)]) (.two (.reg [(6, 4), (9, 5)]) (.leaf))))))), (.cons (.pv (.sl (.pair i (.pair i .unit)))) (.cons (.pv (.pair i (.pair i .unit))) .nil)), (.cons .flat .bool .nil)⟩
theorem it_etchhouselaw8_DrillWaysMatchSpec : InTab Try.prog I_etchhouselaw8_DrillWaysMatchSpec := ⟨Try.func3, by kernel_rfl, rfl⟩
noncomputable def T_etchhouselaw8_DrillWaysMatchSpec : Nat → Entry Try.prog := nth (Entry.no Try.f0) [E_drill_Way, E_etchhouseref8_Way, E_drill_Greedy, E_etchhouseref8_Greedy, E_slices_Equal_int_int, E_etchhouselaw8_awake]
noncomputable def B_etchhouselaw8_DrillWaysMatchSpec (x0 : List (Int × (Int × Unit))) (x1 : (Int × (Int × Unit))) : Option (((Bool × Unit) × (Unit × (Unit × Unit)))) :=
  (bif (!(decide (((S_WayP x0 x1).2 = (S_WayR x0 x1).2)))) then
    some ((false, ()), ((), ((), ())))
  else
    (bif (!(decide (((S_WayP x0 x1).1 = (S_WayR x0 x1).1)))) then
      some ((false, ()), ((), ((), ())))
    else
      ((S_GreedyP x0 x1).bind fun ((r1aa, (r1aba, ())), ((), ((), ()))) =>
      ((S_GreedyR x0 x1).bind fun ((r2aa, (r2aba, ())), ((), ((), ()))) =>
      (bif decide ((r1aba = r2aba)) then
        (bif decide ((r1aa = r2aa)) then
          ((B_etchhouselaw8_awake).bind fun ((r3aa, ()), ()) =>
          some ((r3aa, ()), ((), ((), ()))))
        else
          some ((false, ()), ((), ((), ()))))
      else
        some ((false, ()), ((), ((), ()))))))))
theorem B_etchhouselaw8_DrillWaysMatchSpec_eq (n : Nat) (x0 : List (Int × (Int × Unit))) (x1 : (Int × (Int × Unit))) : bodyE ty T_etchhouselaw8_DrillWaysMatchSpec n I_etchhouselaw8_DrillWaysMatchSpec (x0, (x1, ())) = B_etchhouselaw8_DrillWaysMatchSpec x0 x1 := by kernel_rfl
noncomputable def E_etchhouselaw8_DrillWaysMatchSpec : Entry Try.prog := Entry.of tok T_etchhouselaw8_DrillWaysMatchSpec I_etchhouselaw8_DrillWaysMatchSpec it_etchhouselaw8_DrillWaysMatchSpec (fun x => B_etchhouselaw8_DrillWaysMatchSpec x.1 x.2.1) (fun (a0, a1, ()) r _ h => ⟨0, (B_etchhouselaw8_DrillWaysMatchSpec_eq 0 a0 a1).trans h⟩)

end Go.Proofs.Ytlibmodfpkhdpaa
namespace Go.Proofs.Ytlibmodfpkhdpaa
open Go Go.VM
namespace LDrillWaysMatchSpec
theorem isPt_same : S_isPtR = S_isPt := rfl
theorem isPt_range {p : Pt} (h : S_isPt p = true) : inR p := by
  obtain ⟨a, b, _⟩ := p
  simp only [S_isPt, S_within, Bool.and_eq_true, decide_eq_true_eq] at h
  exact ⟨h.1.1, h.1.2, h.2.1, h.2.2⟩
theorem apart_abs {a b : Int} (ha : -1000000 ≤ a ∧ a ≤ 1000000) (hb : -1000000 ≤ b ∧ b ≤ 1000000) : S_apart a b = S_abs (wrapI .i64 (a - b)) := by
  unfold S_apart S_abs
  rw [wrap64 (n := a - b) (by omega) (by omega), wrap64 (n := b - a) (by omega) (by omega), wrap64 (n := 0 - (a - b)) (by omega) (by omega)]
  rw [show 0 - (a - b) = b - a by omega]
theorem far_dist {p q : Pt} (hp : inR p) (hq : inR q) : S_far p q = S_dist p q := by
  unfold S_far S_dist
  rw [apart_abs ⟨hp.1, hp.2.1⟩ ⟨hq.1, hq.2.1⟩, apart_abs ⟨hp.2.2.1, hp.2.2.2⟩ ⟨hq.2.2.1, hq.2.2.2⟩]
theorem ask_chk (l : List Pt) (p : Pt) (m : Int) : S_ask l p m = S_chk l p m := rfl
theorem chk_all {l : List Pt} {p : Pt} {m : Int} (h : S_chk l p m = 0) : inR p ∧ (∀ a, a ∈ l → inR a) ∧ (l.length : Int) ≤ m := by
  unfold S_chk at h
  cases hd : decide (m < (l.length : Int)) with
  | true => rw [hd] at h; cases h
  | false =>
    rw [hd, cond_false] at h
    cases hc : (S_isPt p && l.all S_isPt) with
    | false => rw [hc] at h; cases h
    | true =>
      simp only [Bool.and_eq_true, List.all_eq_true] at hc
      simp only [decide_eq_false_iff_not] at hd
      exact ⟨isPt_range hc.1, fun a ha => isPt_range (hc.2 a ha), by omega⟩
theorem way_same : ∀ (l : List Pt) (i : Nat) (s : Int) (p : Pt), inR p → (∀ a, a ∈ l → inR a) → foldI (wayF S_far) l i (s, p) = foldI (wayF S_dist) l i (s, p)
  | [], _, _, _, _, _ => rfl
  | a :: r, i, s, p, hp, hl => by
    simp only [foldI, wayF]
    rw [far_dist hp (hl a List.mem_cons_self)]
    exact way_same r _ _ _ (hl a List.mem_cons_self) fun b hb => hl b (List.mem_cons_of_mem _ hb)
theorem getD_in {l : List Pt} (hl : ∀ a, a ∈ l → inR a) (k : Nat) : inR (l.getD k pt0) := by
  rw [List.getD_eq_getElem?_getD]
  cases h : l[k]? with
  | none => simp [inR, pt0]
  | some a => exact hl a (List.mem_of_getElem? h)
theorem pick_same {l : List Pt} {used : List Bool} {p : Pt} (hp : inR p) (hl : ∀ a, a ∈ l → inR a) : S_pick S_far l used p = S_pick S_dist l used p := by
  unfold S_pick
  refine foldI_congr l 0 _ fun a ha i b => ?_
  unfold pickF
  rw [far_dist hp (hl a ha), far_dist hp (getD_in hl _)]
theorem greedy_same {l : List Pt} (hl : ∀ a, a ∈ l → inR a) : ∀ (r : List Pt) (i : Nat) (o : List Int) (p : Pt) (u : List Bool), inR p →
    goL (greedyB S_far l) (fun s => some s.1) r i (o, p, u) = goL (greedyB S_dist l) (fun s => some s.1) r i (o, p, u)
  | [], _, _, _, _, _ => rfl
  | a :: r, i, o, p, u, hp => by
    simp only [goL, greedyB]
    rw [pick_same hp hl]
    cases inB (S_pick S_dist l u p) l.length with
    | true => exact greedy_same hl r _ _ _ _ (getD_in hl _)
    | false => rfl
/-- how many are left -/
theorem count_set : ∀ (u : List Bool) (k : Nat), u.count false ≤ (u.set k true).count false + 1
  | [], _ => by simp
  | b :: u, 0 => by cases b <;> simp
  | b :: u, k + 1 => by have := count_set u k; cases b <;> simp <;> omega
theorem fold_pos {d : Pt → Pt → Int} {l : List Pt} {used : List Bool} {p : Pt} : ∀ (r : List Pt) (i : Nat) (b : Int), 0 ≤ b → 0 ≤ foldI (pickF d l used p) r i b
  | [], _, _, h => h
  | a :: r, i, b, h => by
    refine fold_pos r (i + 1) _ ?_
    unfold pickF
    cases used.getD i false with
    | true => exact h
    | false =>
      cases hb : decide (b < 0) with
      | true => simp only [Bool.not_false, cond_true]; omega
      | false => cases decide (d p a < d p (l.getD b.toNat pt0)) <;> simp only [Bool.not_false, cond_true, cond_false] <;> omega
theorem pick_pos {d : Pt → Pt → Int} {l : List Pt} {used : List Bool} {p : Pt} : ∀ (r : List Pt) (i : Nat) (b : Int), (∃ k, i ≤ k ∧ k < i + r.length ∧ used.getD k false = false) → 0 ≤ foldI (pickF d l used p) r i b
  | [], i, b, ⟨k, h1, h2, _⟩ => by simp at h2; omega
  | a :: r, i, b, ⟨k, h1, h2, h3⟩ => by
    by_cases e : k = i
    · subst e
      refine fold_pos r _ _ ?_
      unfold pickF
      rw [h3]
      cases hb : decide (b < 0) with
      | true => simp only [Bool.not_false, cond_true]; omega
      | false =>
        simp only [decide_eq_false_iff_not] at hb
        cases decide (d p a < d p (l.getD b.toNat pt0)) <;> simp only [Bool.not_false, cond_true, cond_false] <;> omega
    · exact pick_pos r (i + 1) _ ⟨k, by omega, by simp at h2; omega, h3⟩
theorem count_ex : ∀ (u : List Bool), 0 < u.count false → ∃ k, k < u.length ∧ u.getD k false = false
  | [], h => by simp at h
  | true :: u, h => by
    obtain ⟨k, h1, h2⟩ := count_ex u (by simpa using h)
    exact ⟨k + 1, by simp; omega, by simpa using h2⟩
  | false :: u, _ => ⟨0, by simp, by simp⟩
theorem greedy_ok {d : Pt → Pt → Int} {l : List Pt} : ∀ (r : List Pt) (i : Nat) (o : List Int) (p : Pt) (u : List Bool), u.length = l.length → r.length ≤ u.count false → ∃ z, goL (greedyB d l) (fun s => some s.1) r i (o, p, u) = some z
  | [], _, o, _, _, _, _ => ⟨o, rfl⟩
  | a :: r, i, o, p, u, hu, hc => by
    simp only [List.length_cons] at hc
    obtain ⟨k, h1, h2⟩ := count_ex u (by omega)
    have hp : 0 ≤ S_pick d l u p := pick_pos l 0 (-1) ⟨k, by omega, by omega, h2⟩
    obtain ⟨_, q⟩ := pick_inv d l u p
    simp only [goL, greedyB]
    rw [inB_int hp q, cond_true]
    refine greedy_ok r _ _ _ _ (by simp [hu]) ?_
    have := count_set u (S_pick d l u p).toNat
    omega
theorem law (x0 : List Pt) (x1 : Pt) : B_etchhouselaw8_DrillWaysMatchSpec x0 x1 = some ((true, ()), ((), ((), ()))) := by
  have hW : S_WayR x0 x1 = S_WayP x0 x1 := by
    unfold S_WayR S_WayP
    rw [ask_chk]
    cases hc : decide (S_chk x0 x1 2000 = 0) with
    | false => rfl
    | true =>
      obtain ⟨hp, hl, _⟩ := chk_all (of_decide_eq_true hc)
      simp only [cond_true, S_way, way_same x0 0 0 x1 hp hl]
  have hG : S_GreedyR x0 x1 = S_GreedyP x0 x1 ∧ ∃ z, S_GreedyP x0 x1 = some z := by
    unfold S_GreedyR S_GreedyP
    rw [ask_chk]
    cases hc : decide (S_chk x0 x1 200 = 0) with
    | false => exact ⟨rfl, _, rfl⟩
    | true =>
      obtain ⟨hp, hl, _⟩ := chk_all (of_decide_eq_true hc)
      simp only [cond_true]
      have e : S_greedy S_dist x0 x1 = S_greedy S_far x0 x1 := (greedy_same hl x0 0 [] x1 _ hp).symm
      rw [e]
      obtain ⟨z, hz⟩ := greedy_ok (d := S_far) (l := x0) x0 0 [] x1 (List.replicate x0.length false) (by simp) (by simp)
      exact ⟨rfl, _, by unfold S_greedy; rw [hz]; rfl⟩
  obtain ⟨h1, z, h2⟩ := hG
  unfold B_etchhouselaw8_DrillWaysMatchSpec B_etchhouselaw8_awake
  rw [hW, h1, h2]
  simp

end LDrillWaysMatchSpec
end Go.Proofs.Ytlibmodfpkhdpaa
