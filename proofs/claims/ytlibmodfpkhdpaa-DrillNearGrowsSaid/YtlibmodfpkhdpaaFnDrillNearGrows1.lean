/- What the functions that DrillNearGrows reaches compute, part 1; and that the law answers true, for all arguments that a row reads. -/
import Derived.Test.YtlibmodfpkhdpaaProg
import Derived.Test.YtlibmodfpkhdpaaVm4
namespace Go.Proofs.Ytlibmodfpkhdpaa
open Go Go.VM
abbrev i : Ty := .int .i64
def tab : List (Nat × Ty) := [(22, (.sl (.pair i (.pair i .unit)))), (24, (.pair i (.pair i .unit))), (3, i), (4, .bool), (25, i), (28, (.sl i)), (62, (.sl .bool)), (34, (.sl (.pair (.pair i (.pair i .unit)) (.pair i (.pair i (.pair .bool .unit)))))), (55, (.pair (.pair i (.pair i .unit)) (.pair i (.pair i (.pair .bool .unit))))), (35, (.sl (.pair i (.pair i (.pair i .unit))))), (39, (.pair i (.pair i (.pair i .unit))))]
def ty : Types := mkTypes tab [24, 39]
theorem tok : TyOK Try.prog ty := tyok_of_check (by kernel_rfl)
end Go.Proofs.Ytlibmodfpkhdpaa
namespace Go.Proofs.Ytlibmodfpkhdpaa
open Go Go.VM
/-! ### etchhouse.shape.within -/
noncomputable def I_shape_within : Inst := ⟨55, Try.f55, .two (.reg []) (.two (.reg []) (.leaf)), (.cons (.pv i) (.cons (.pv i) (.cons (.pv i) .nil))), (.cons .flat .bool .nil)⟩
theorem it_shape_within : InTab Try.prog I_shape_within := ⟨Try.func55, by kernel_rfl, rfl⟩
noncomputable def T_shape_within : Nat → Entry Try.prog := nth (Entry.no Try.f0) []
noncomputable def B_shape_within (x0 : Int) (x1 : Int) (x2 : Int) : Option (((Bool × Unit) × (Unit × (Unit × (Unit × Unit))))) :=
  (bif decide ((x1 ≤ x0)) then
    some ((decide ((x0 ≤ x2)), ()), ((), ((), ((), ()))))
  else
    some ((false, ()), ((), ((), ((), ())))))
theorem B_shape_within_eq (n : Nat) (x0 : Int) (x1 : Int) (x2 : Int) : bodyE ty T_shape_within n I_shape_within (x0, (x1, (x2, ()))) = B_shape_within x0 x1 x2 := by kernel_rfl
theorem ok_shape_within (x0 x1 x2 : Int) (hok : OkA I_shape_within.args (x0, x1, x2, ())) : ∃ n, bodyE ty T_shape_within n I_shape_within (x0, x1, x2, ()) = some ((S_within x0 x1 x2, ()), ((), (), (), ())) := ⟨0, by
  rw [B_shape_within_eq]; unfold B_shape_within S_within; cases decide (x1 ≤ x0) <;> rfl⟩
noncomputable def E_shape_within : Entry Try.prog := Entry.of tok T_shape_within I_shape_within it_shape_within (fun (x0, x1, x2, ()) => some ((S_within x0 x1 x2, ()), ((), (), (), ()))) (fun (x0, x1, x2, ()) r hok h => by cases h; exact ok_shape_within x0 x1 x2 hok)

end Go.Proofs.Ytlibmodfpkhdpaa
namespace Go.Proofs.Ytlibmodfpkhdpaa
open Go Go.VM
/-! ### etchhouse.shape.IsAt -/
noncomputable def I_shape_IsAt : Inst := ⟨53, Try.f53, .two (.reg []) (.two (.reg [(1, 0)]) (.leaf)), (.cons (.pv i) .nil), (.cons .flat .bool .nil)⟩
theorem it_shape_IsAt : InTab Try.prog I_shape_IsAt := ⟨Try.func53, by kernel_rfl, rfl⟩
noncomputable def T_shape_IsAt : Nat → Entry Try.prog := nth (Entry.no Try.f0) [E_shape_within]
noncomputable def B_shape_IsAt (x0 : Int) : Option (((Bool × Unit) × (Unit × Unit))) :=
  some ((S_within x0 (-1000000) 1000000, ()), ((), ()))
theorem B_shape_IsAt_eq (n : Nat) (x0 : Int) : bodyE ty T_shape_IsAt n I_shape_IsAt (x0, ()) = B_shape_IsAt x0 := by kernel_rfl
theorem ok_shape_IsAt (x0 : Int) (hok : OkA I_shape_IsAt.args (x0, ())) : ∃ n, bodyE ty T_shape_IsAt n I_shape_IsAt (x0, ()) = some ((S_within x0 (-1000000) 1000000, ()), ((), ())) := ⟨0, by rw [B_shape_IsAt_eq]; rfl⟩
noncomputable def E_shape_IsAt : Entry Try.prog := Entry.of tok T_shape_IsAt I_shape_IsAt it_shape_IsAt (fun (x0, ()) => some ((S_within x0 (-1000000) 1000000, ()), ((), ()))) (fun (x0, ()) r hok h => by cases h; exact ok_shape_IsAt x0 hok)

end Go.Proofs.Ytlibmodfpkhdpaa
namespace Go.Proofs.Ytlibmodfpkhdpaa
open Go Go.VM
/-! ### etchhouse.shape.IsPoint -/
noncomputable def I_shape_IsPoint : Inst := ⟨45, Try.f45, .two (.reg []) (.two (.reg [(2, 0), (6, 0)]) (.leaf)), (.cons (.pv (.pair i (.pair i .unit))) .nil), (.cons .flat .bool .nil)⟩
theorem it_shape_IsPoint : InTab Try.prog I_shape_IsPoint := ⟨Try.func45, by kernel_rfl, rfl⟩
noncomputable def T_shape_IsPoint : Nat → Entry Try.prog := nth (Entry.no Try.f0) [E_shape_IsAt]
noncomputable def B_shape_IsPoint (x0 : (Int × (Int × Unit))) : Option (((Bool × Unit) × (Unit × Unit))) :=
  (bif S_within x0.1 (-1000000) 1000000 then
    some ((S_within x0.2.1 (-1000000) 1000000, ()), ((), ()))
  else
    some ((false, ()), ((), ())))
theorem B_shape_IsPoint_eq (n : Nat) (x0 : (Int × (Int × Unit))) : bodyE ty T_shape_IsPoint n I_shape_IsPoint (x0, ()) = B_shape_IsPoint x0 := by kernel_rfl
def S_isPt (p : Int × Int × Unit) : Bool := S_within p.1 (-1000000) 1000000 && S_within p.2.1 (-1000000) 1000000
theorem ok_shape_IsPoint (x0 : Int × Int × Unit) (hok : OkA I_shape_IsPoint.args (x0, ())) : ∃ n, bodyE ty T_shape_IsPoint n I_shape_IsPoint (x0, ()) = some ((S_isPt x0, ()), ((), ())) := ⟨0, by
  rw [B_shape_IsPoint_eq]; unfold B_shape_IsPoint S_isPt; cases S_within x0.1 (-1000000) 1000000 <;> rfl⟩
noncomputable def E_shape_IsPoint : Entry Try.prog := Entry.of tok T_shape_IsPoint I_shape_IsPoint it_shape_IsPoint (fun (x0, ()) => some ((S_isPt x0, ()), ((), ()))) (fun (x0, ()) r hok h => by cases h; exact ok_shape_IsPoint x0 hok)

end Go.Proofs.Ytlibmodfpkhdpaa
namespace Go.Proofs.Ytlibmodfpkhdpaa
open Go Go.VM
/-! ### etchhouse.drill.within -/
noncomputable def I_drill_within : Inst := ⟨33, Try.f33, .two (.reg []) (.two (.reg []) (.leaf)), (.cons (.pv i) (.cons (.pv i) (.cons (.pv i) .nil))), (.cons .flat .bool .nil)⟩
theorem it_drill_within : InTab Try.prog I_drill_within := ⟨Try.func33, by kernel_rfl, rfl⟩
noncomputable def T_drill_within : Nat → Entry Try.prog := nth (Entry.no Try.f0) []
noncomputable def B_drill_within (x0 : Int) (x1 : Int) (x2 : Int) : Option (((Bool × Unit) × (Unit × (Unit × (Unit × Unit))))) :=
  (bif decide ((x1 ≤ x0)) then
    some ((decide ((x0 ≤ x2)), ()), ((), ((), ((), ()))))
  else
    some ((false, ()), ((), ((), ((), ())))))
theorem B_drill_within_eq (n : Nat) (x0 : Int) (x1 : Int) (x2 : Int) : bodyE ty T_drill_within n I_drill_within (x0, (x1, (x2, ()))) = B_drill_within x0 x1 x2 := by kernel_rfl
theorem ok_drill_within (x0 x1 x2 : Int) (hok : OkA I_drill_within.args (x0, x1, x2, ())) : ∃ n, bodyE ty T_drill_within n I_drill_within (x0, x1, x2, ()) = some ((S_within x0 x1 x2, ()), ((), (), (), ())) := ⟨0, by
  rw [B_drill_within_eq]; unfold B_drill_within S_within; cases decide (x1 ≤ x0) <;> rfl⟩
noncomputable def E_drill_within : Entry Try.prog := Entry.of tok T_drill_within I_drill_within it_drill_within (fun (x0, x1, x2, ()) => some ((S_within x0 x1 x2, ()), ((), (), (), ()))) (fun (x0, x1, x2, ()) r hok h => by cases h; exact ok_drill_within x0 x1 x2 hok)

end Go.Proofs.Ytlibmodfpkhdpaa
namespace Go.Proofs.Ytlibmodfpkhdpaa
open Go Go.VM
/-! ### etchhouse.drill.CheckHoles -/
noncomputable def I_drill_CheckHoles : Inst := ⟨32, Try.f32, .two (.reg []) (.two (.two (.reg []) (.two (.two (.reg []) (.leaf)) (.leaf))) (.two (.two (.reg []) (.one (.loop ⟨[(10, .pv i)], [], [8, 9], []⟩ (.two (.reg []) (.two (.two (.leaf) (.leaf)) (.two (.one (.two (.reg []) (.two (.reg [(2, 0), (7, 1), (13, 1)]) (.two (.two (.reg []) (.leaf)) (.leaf))))) (.reg []))))))) (.two (.reg []) (.leaf)))), (.cons (.pv (.sl (.pair (.pair i (.pair i .unit)) (.pair i (.pair i (.pair .bool .unit)))))) .nil), (.cons .flat i .nil)⟩
theorem it_drill_CheckHoles : InTab Try.prog I_drill_CheckHoles := ⟨Try.func32, by kernel_rfl, rfl⟩
noncomputable def T_drill_CheckHoles : Nat → Entry Try.prog := nth (Entry.no Try.f0) [E_shape_IsPoint, E_drill_within]
noncomputable def B_drill_CheckHoles (n : Nat) (x0 : List ((Int × (Int × Unit)) × (Int × (Int × (Bool × Unit))))) : Option (((Int × Unit) × (Unit × Unit))) :=
  (bif decide ((2000 < ((x0.length : Nat) : Int))) then
    some ((2, ()), ((), ()))
  else
    loopN (fun rec1 => fun
    | ((v1aa, ()), ()) =>
      (bif decide ((v1aa < ((x0.length : Nat) : Int))) then
        (bif inB v1aa x0.length then
          (bif (!(S_isPt ((x0.getD v1aa.toNat ((0, (0, ())), (0, (0, (false, ()))))).1))) then
            some ((1, ()), ((), ()))
          else
            (bif (!(S_within (((x0.getD v1aa.toNat ((0, (0, ())), (0, (0, (false, ()))))).2).1) 1 10000)) then
              some ((1, ()), ((), ()))
            else
              (bif (!(S_within ((((x0.getD v1aa.toNat ((0, (0, ())), (0, (0, (false, ()))))).2).2).1) 1 100000)) then
                some ((1, ()), ((), ()))
              else
                rec1 ((wrapI .i64 (v1aa + 1), ()), ()))))
        else
          none)
      else
        some ((0, ()), ((), ()))))
    n ((0, ()), ()))
theorem B_drill_CheckHoles_eq (n : Nat) (x0 : List ((Int × (Int × Unit)) × (Int × (Int × (Bool × Unit))))) : bodyE ty T_drill_CheckHoles n I_drill_CheckHoles (x0, ()) = B_drill_CheckHoles n x0 := by kernel_rfl
def S_hole (h : Hole) : Bool := S_isPt h.1 && (S_within h.2.1 1 10000 && S_within h.2.2.1 1 100000)
def S_chkH (l : List Hole) : Int := bif decide ((2000 : Int) < (l.length : Int)) then 2 else bif l.all S_hole then 0 else 1
theorem ok_drill_CheckHoles (x0 : List Hole) (hok : OkA I_drill_CheckHoles.args (x0, ())) : ∃ n, bodyE ty T_drill_CheckHoles n I_drill_CheckHoles (x0, ()) = some ((S_chkH x0, ()), ((), ())) := ⟨x0.length + 1, by
  obtain ⟨⟨hl, _⟩, _⟩ := hok
  rw [B_drill_CheckHoles_eq]
  unfold B_drill_CheckHoles S_chkH
  cases hd : decide ((2000 : Int) < (x0.length : Int)) with
  | true => rfl
  | false =>
    simp only [cond_false]
    refine (loop_list (l := x0) (fun i (_ : Unit) => ((i, ()), ())) (fun a i _ => bif S_hole a then .inl () else .inr (some ((1, ()), ((), ())))) (fun _ => some ((0, ()), ((), ()))) (fun i h s rec => ?_) (fun s rec => ?_) (Nat.lt_succ_self _) ()).trans ?_
    · simp only [lt_nat h, inB_nat h, getD_lt h, succ64 h hl, cond_true, S_hole]
      cases S_isPt x0[i].1 <;> cases S_within x0[i].2.1 1 10000 <;> cases S_within x0[i].2.2.1 1 100000 <;> rfl
    · simp only [lt_self, cond_false]
    · rw [goL_all]
      cases x0.all S_hole <;> rfl⟩
noncomputable def E_drill_CheckHoles : Entry Try.prog := Entry.of tok T_drill_CheckHoles I_drill_CheckHoles it_drill_CheckHoles (fun (x0, ()) => some ((S_chkH x0, ()), ((), ()))) (fun (x0, ()) r hok h => by cases h; exact ok_drill_CheckHoles x0 hok)

end Go.Proofs.Ytlibmodfpkhdpaa
namespace Go.Proofs.Ytlibmodfpkhdpaa
open Go Go.VM
/-! ### etchhouse.drill.apart -/
noncomputable def I_drill_apart : Inst := ⟨34, Try.f34, .two (.reg []) (.two (.reg []) (.leaf)), (.cons (.pv i) (.cons (.pv i) .nil)), (.cons .flat i .nil)⟩
theorem it_drill_apart : InTab Try.prog I_drill_apart := ⟨Try.func34, by kernel_rfl, rfl⟩
noncomputable def T_drill_apart : Nat → Entry Try.prog := nth (Entry.no Try.f0) []
noncomputable def B_drill_apart (x0 : Int) (x1 : Int) : Option (((Int × Unit) × (Unit × (Unit × Unit)))) :=
  some (((bif decide ((wrapI .i64 (x0 - x1) < wrapI .i64 (x1 - x0))) then wrapI .i64 (x1 - x0) else wrapI .i64 (x0 - x1)), ()), ((), ((), ())))
theorem B_drill_apart_eq (n : Nat) (x0 : Int) (x1 : Int) : bodyE ty T_drill_apart n I_drill_apart (x0, (x1, ())) = B_drill_apart x0 x1 := by kernel_rfl
def S_apart (a b : Int) : Int := bif decide (wrapI .i64 (a - b) < wrapI .i64 (b - a)) then wrapI .i64 (b - a) else wrapI .i64 (a - b)
theorem ok_drill_apart (x0 x1 : Int) (hok : OkA I_drill_apart.args (x0, x1, ())) : ∃ n, bodyE ty T_drill_apart n I_drill_apart (x0, x1, ()) = some ((S_apart x0 x1, ()), ((), (), ())) := ⟨0, by rw [B_drill_apart_eq]; rfl⟩
noncomputable def E_drill_apart : Entry Try.prog := Entry.of tok T_drill_apart I_drill_apart it_drill_apart (fun (x0, x1, ()) => some ((S_apart x0 x1, ()), ((), (), ()))) (fun (x0, x1, ()) r hok h => by cases h; exact ok_drill_apart x0 x1 hok)

end Go.Proofs.Ytlibmodfpkhdpaa
namespace Go.Proofs.Ytlibmodfpkhdpaa
open Go Go.VM
/-! ### etchhouse.drill.Near -/
noncomputable def I_drill_Near : Inst := ⟨15, Try.f15, .two (.reg []) (.two (.two (.reg [(1, 0)]) (.two (.reg []) (.two (.two (.reg []) (.leaf)) (.leaf)))) (.two (.two (.reg [(1, 1)]) (.two (.two (.reg []) (.leaf)) (.leaf))) (.two (.reg []) (.two (.two (.reg []) (.one (.loop ⟨[(7, .st (.at (.rf 7 []))), (24, .pv i)], [(7, ⟨(.own .flat), (.sl (.pair i (.pair i (.pair i .unit)))), false, false⟩)], [0, 1, 22, 23], []⟩ (.two (.reg []) (.two (.two (.leaf) (.leaf)) (.two (.one (.two (.reg []) (.two (.reg []) (.one (.loop ⟨[(7, .st (.at (.rf 7 []))), (10, .pv i)], [(7, ⟨(.own .flat), (.sl (.pair i (.pair i (.pair i .unit)))), false, false⟩)], [0, 1, 8, 9, 22, 23, 24], [9]⟩ (.two (.two (.reg []) (.two (.leaf) (.leaf))) (.two (.one (.two (.reg []) (.two (.reg []) (.two (.draw [(6, 2), (15, 2)] [0, 1, 2, 3, 4, 5, 7, 9, 10, 11, 12, 13, 14, 16, 6, 8, 15, 17, 18, 19] [11, 9]) (.two (.reg []) (.two (.reg []) (.leaf))))))) (.reg [])))))))) (.reg []))))))) (.two (.reg []) (.leaf)))))), (.cons (.pv (.sl (.pair (.pair i (.pair i .unit)) (.pair i (.pair i (.pair .bool .unit)))))) (.cons (.pv i) .nil)), (.cons (.own .flat) (.sl (.pair i (.pair i (.pair i .unit)))) (.cons .flat i .nil))⟩
theorem it_drill_Near : InTab Try.prog I_drill_Near := ⟨Try.func15, by kernel_rfl, rfl⟩
noncomputable def T_drill_Near : Nat → Entry Try.prog := nth (Entry.no Try.f0) [E_drill_CheckHoles, E_drill_within, E_drill_apart]
noncomputable def B_drill_Near (n : Nat) (x0 : List ((Int × (Int × Unit)) × (Int × (Int × (Bool × Unit))))) (x1 : Int) : Option (((List (Int × (Int × (Int × Unit))) × (Int × Unit)) × (Unit × (Unit × Unit)))) :=
  (bif (!(decide ((S_chkH x0 = 0)))) then
    some (([], (S_chkH x0, ())), ((), ((), ())))
  else
    (bif (!(S_within x1 0 10000)) then
      some (([], (1, ())), ((), ((), ())))
    else
      loopN (fun rec1 => fun
      | ((v1aa, ()), (v1ba, ())) =>
        (bif decide ((v1aa < ((x0.length : Nat) : Int))) then
          (bif inB v1aa x0.length then
            loopN (fun rec2 => fun
            | ((v2aa, ()), (v2ba, ())) =>
              (bif decide ((v2aa < ((x0.length : Nat) : Int))) then
                (bif inB v2aa x0.length then
                  (bif decide (((bif decide (((bif decide ((0 < wrapI .i64 (S_apart (((x0.getD v1aa.toNat ((0, (0, ())), (0, (0, (false, ()))))).1).1) (((x0.getD v2aa.toNat ((0, (0, ())), (0, (0, (false, ()))))).1).1) - wrapI .i64 (Int.tdiv (wrapI .i64 (((x0.getD v1aa.toNat ((0, (0, ())), (0, (0, (false, ()))))).2).1 + ((x0.getD v2aa.toNat ((0, (0, ())), (0, (0, (false, ()))))).2).1)) 2)))) then wrapI .i64 (S_apart (((x0.getD v1aa.toNat ((0, (0, ())), (0, (0, (false, ()))))).1).1) (((x0.getD v2aa.toNat ((0, (0, ())), (0, (0, (false, ()))))).1).1) - wrapI .i64 (Int.tdiv (wrapI .i64 (((x0.getD v1aa.toNat ((0, (0, ())), (0, (0, (false, ()))))).2).1 + ((x0.getD v2aa.toNat ((0, (0, ())), (0, (0, (false, ()))))).2).1)) 2)) else 0) < wrapI .i64 (S_apart ((((x0.getD v1aa.toNat ((0, (0, ())), (0, (0, (false, ()))))).1).2).1) ((((x0.getD v2aa.toNat ((0, (0, ())), (0, (0, (false, ()))))).1).2).1) - wrapI .i64 (Int.tdiv (wrapI .i64 (((x0.getD v1aa.toNat ((0, (0, ())), (0, (0, (false, ()))))).2).1 + ((x0.getD v2aa.toNat ((0, (0, ())), (0, (0, (false, ()))))).2).1)) 2)))) then wrapI .i64 (S_apart ((((x0.getD v1aa.toNat ((0, (0, ())), (0, (0, (false, ()))))).1).2).1) ((((x0.getD v2aa.toNat ((0, (0, ())), (0, (0, (false, ()))))).1).2).1) - wrapI .i64 (Int.tdiv (wrapI .i64 (((x0.getD v1aa.toNat ((0, (0, ())), (0, (0, (false, ()))))).2).1 + ((x0.getD v2aa.toNat ((0, (0, ())), (0, (0, (false, ()))))).2).1)) 2)) else (bif decide ((0 < wrapI .i64 (S_apart (((x0.getD v1aa.toNat ((0, (0, ())), (0, (0, (false, ()))))).1).1) (((x0.getD v2aa.toNat ((0, (0, ())), (0, (0, (false, ()))))).1).1) - wrapI .i64 (Int.tdiv (wrapI .i64 (((x0.getD v1aa.toNat ((0, (0, ())), (0, (0, (false, ()))))).2).1 + ((x0.getD v2aa.toNat ((0, (0, ())), (0, (0, (false, ()))))).2).1)) 2)))) then wrapI .i64 (S_apart (((x0.getD v1aa.toNat ((0, (0, ())), (0, (0, (false, ()))))).1).1) (((x0.getD v2aa.toNat ((0, (0, ())), (0, (0, (false, ()))))).1).1) - wrapI .i64 (Int.tdiv (wrapI .i64 (((x0.getD v1aa.toNat ((0, (0, ())), (0, (0, (false, ()))))).2).1 + ((x0.getD v2aa.toNat ((0, (0, ())), (0, (0, (false, ()))))).2).1)) 2)) else 0)) < x1)) then
                    (bif (!(Ty.eqv (.pair (.int .i64) (.pair (.int .i64) .unit)) ((x0.getD v1aa.toNat ((0, (0, ())), (0, (0, (false, ()))))).1) ((x0.getD v2aa.toNat ((0, (0, ())), (0, (0, (false, ()))))).1))) then
                      (bif decide (((v2ba.length + 1) ≤ 4294967296)) then
                        rec2 ((wrapI .i64 (v2aa + 1), ()), ((v2ba ++ [(v1aa, (v2aa, ((bif decide (((bif decide ((0 < wrapI .i64 (S_apart (((x0.getD v1aa.toNat ((0, (0, ())), (0, (0, (false, ()))))).1).1) (((x0.getD v2aa.toNat ((0, (0, ())), (0, (0, (false, ()))))).1).1) - wrapI .i64 (Int.tdiv (wrapI .i64 (((x0.getD v1aa.toNat ((0, (0, ())), (0, (0, (false, ()))))).2).1 + ((x0.getD v2aa.toNat ((0, (0, ())), (0, (0, (false, ()))))).2).1)) 2)))) then wrapI .i64 (S_apart (((x0.getD v1aa.toNat ((0, (0, ())), (0, (0, (false, ()))))).1).1) (((x0.getD v2aa.toNat ((0, (0, ())), (0, (0, (false, ()))))).1).1) - wrapI .i64 (Int.tdiv (wrapI .i64 (((x0.getD v1aa.toNat ((0, (0, ())), (0, (0, (false, ()))))).2).1 + ((x0.getD v2aa.toNat ((0, (0, ())), (0, (0, (false, ()))))).2).1)) 2)) else 0) < wrapI .i64 (S_apart ((((x0.getD v1aa.toNat ((0, (0, ())), (0, (0, (false, ()))))).1).2).1) ((((x0.getD v2aa.toNat ((0, (0, ())), (0, (0, (false, ()))))).1).2).1) - wrapI .i64 (Int.tdiv (wrapI .i64 (((x0.getD v1aa.toNat ((0, (0, ())), (0, (0, (false, ()))))).2).1 + ((x0.getD v2aa.toNat ((0, (0, ())), (0, (0, (false, ()))))).2).1)) 2)))) then wrapI .i64 (S_apart ((((x0.getD v1aa.toNat ((0, (0, ())), (0, (0, (false, ()))))).1).2).1) ((((x0.getD v2aa.toNat ((0, (0, ())), (0, (0, (false, ()))))).1).2).1) - wrapI .i64 (Int.tdiv (wrapI .i64 (((x0.getD v1aa.toNat ((0, (0, ())), (0, (0, (false, ()))))).2).1 + ((x0.getD v2aa.toNat ((0, (0, ())), (0, (0, (false, ()))))).2).1)) 2)) else (bif decide ((0 < wrapI .i64 (S_apart (((x0.getD v1aa.toNat ((0, (0, ())), (0, (0, (false, ()))))).1).1) (((x0.getD v2aa.toNat ((0, (0, ())), (0, (0, (false, ()))))).1).1) - wrapI .i64 (Int.tdiv (wrapI .i64 (((x0.getD v1aa.toNat ((0, (0, ())), (0, (0, (false, ()))))).2).1 + ((x0.getD v2aa.toNat ((0, (0, ())), (0, (0, (false, ()))))).2).1)) 2)))) then wrapI .i64 (S_apart (((x0.getD v1aa.toNat ((0, (0, ())), (0, (0, (false, ()))))).1).1) (((x0.getD v2aa.toNat ((0, (0, ())), (0, (0, (false, ()))))).1).1) - wrapI .i64 (Int.tdiv (wrapI .i64 (((x0.getD v1aa.toNat ((0, (0, ())), (0, (0, (false, ()))))).2).1 + ((x0.getD v2aa.toNat ((0, (0, ())), (0, (0, (false, ()))))).2).1)) 2)) else 0)), ())))]), ()))
                      else
                        none)
                    else
                      rec2 ((wrapI .i64 (v2aa + 1), ()), (v2ba, ())))
                  else
                    rec2 ((wrapI .i64 (v2aa + 1), ()), (v2ba, ())))
                else
                  none)
              else
                rec1 ((wrapI .i64 (v1aa + 1), ()), (v2ba, ()))))
            n ((wrapI .i64 (v1aa + 1), ()), (v1ba, ()))
          else
            none)
        else
          some ((v1ba, (0, ())), ((), ((), ())))))
      n ((0, ()), ([], ()))))
theorem B_drill_Near_eq (n : Nat) (x0 : List ((Int × (Int × Unit)) × (Int × (Int × (Bool × Unit))))) (x1 : Int) : bodyE ty T_drill_Near n I_drill_Near (x0, (x1, ())) = B_drill_Near n x0 x1 := by kernel_rfl
def S_gap (a b : Hole) : Int :=
  bif decide ((bif decide (0 < wrapI .i64 (S_apart a.1.1 b.1.1 - wrapI .i64 (Int.tdiv (wrapI .i64 (a.2.1 + b.2.1)) 2))) then wrapI .i64 (S_apart a.1.1 b.1.1 - wrapI .i64 (Int.tdiv (wrapI .i64 (a.2.1 + b.2.1)) 2)) else 0) < wrapI .i64 (S_apart a.1.2.1 b.1.2.1 - wrapI .i64 (Int.tdiv (wrapI .i64 (a.2.1 + b.2.1)) 2)))
  then wrapI .i64 (S_apart a.1.2.1 b.1.2.1 - wrapI .i64 (Int.tdiv (wrapI .i64 (a.2.1 + b.2.1)) 2))
  else (bif decide (0 < wrapI .i64 (S_apart a.1.1 b.1.1 - wrapI .i64 (Int.tdiv (wrapI .i64 (a.2.1 + b.2.1)) 2))) then wrapI .i64 (S_apart a.1.1 b.1.1 - wrapI .i64 (Int.tdiv (wrapI .i64 (a.2.1 + b.2.1)) 2)) else 0)
def S_NearP (x0 : List Hole) (x1 : Int) : List Pr × Int := bif decide (S_chkH x0 = 0) then (bif S_within x1 0 10000 then (S_near S_gap x0 x1, 0) else ([], 1)) else ([], S_chkH x0)
theorem chkH_len {l : List Hole} (h : S_chkH l = 0) : l.length ≤ 2000 ∧ l.all S_hole = true := by
  unfold S_chkH at h
  cases hd : decide ((2000 : Int) < (l.length : Int)) with
  | true => rw [hd] at h; cases h
  | false =>
    rw [hd, cond_false] at h
    simp only [decide_eq_false_iff_not] at hd
    cases hc : l.all S_hole with
    | false => rw [hc] at h; cases h
    | true => exact ⟨by omega, rfl⟩
theorem ok_drill_Near (x0 : List Hole) (x1 : Int) (hok : OkA I_drill_Near.args (x0, x1, ())) : ∃ n, bodyE ty T_drill_Near n I_drill_Near (x0, x1, ()) = some (((S_NearP x0 x1).1, (S_NearP x0 x1).2, ()), ((), (), ())) := ⟨x0.length + 1, by
  obtain ⟨⟨hl, _⟩, _⟩ := hok
  rw [B_drill_Near_eq]
  unfold B_drill_Near S_NearP
  cases hc : decide (S_chkH x0 = 0) with
  | false => rfl
  | true =>
    simp only [Bool.not_true, cond_false, cond_true]
    cases hw : S_within x1 0 10000 with
    | false => rfl
    | true =>
      simp only [Bool.not_true, cond_false, cond_true]
      obtain ⟨h2, _⟩ := chkH_len (of_decide_eq_true hc)
      obtain ⟨c, hc2⟩ : ∃ c : Nat, c = 2000 := ⟨_, rfl⟩
      refine (loop_fold (l := x0) (fun i (s : List Pr) => ((i, ()), (s, ()))) (fun i s => s.length ≤ i * c) (fun a i o => foldI (nearF S_gap x1 i a) (x0.drop (i + 1)) (i + 1) o) (fun s => some ((s, 0, ()), ((), (), ()))) (fun i h s hI => ⟨?_, fun rec => ?_⟩) (fun s _ rec => by simp only [lt_self, cond_false]) (Nat.lt_succ_self _) (s := []) (Nat.zero_le _))
      · have := foldI_inv (f := nearF S_gap x1 i x0[i]) (fun k o => o.length ≤ s.length + (k - (i + 1))) (x0.drop (i + 1)) (i + 1) s (Nat.le_add_right _ _) (fun j a s' _ hJ => by
          have := near_len (g := S_gap) (below := x1) (i := i) (a := x0[i]) (b := a) (k := i + 1 + j) (o := s')
          omega)
        rw [List.length_drop] at this
        rw [Nat.succ_mul]
        omega
      · simp only [lt_nat h, inB_nat h, getD_lt h, succ64 h hl, cond_true]
        have hi2 : i * c ≤ 2000 * 2000 := Nat.mul_le_mul (by omega) (by omega)
        refine (loop_foldAt (l := x0) (fun k (s : List Pr) => ((k, ()), (s, ()))) (fun k o => i + 1 ≤ k ∧ o.length ≤ s.length + (k - (i + 1))) (nearF S_gap x1 i x0[i]) (fun s' => rec ((((i + 1 : Nat) : Int), ()), (s', ()))) (fun k hk s' hJ => ⟨?_, fun rec2 => ?_⟩) (fun s' _ rec2 => by simp only [lt_self, cond_false]) (Nat.lt_succ_self _) (i0 := i + 1) (by omega) (s := s) ⟨Nat.le_refl _, Nat.le_add_right _ _⟩)
        · have := near_len (g := S_gap) (below := x1) (i := i) (a := x0[i]) (b := x0[k]) (k := k) (o := s')
          omega
        · simp only [lt_nat hk, inB_nat hk, getD_lt hk, succ64 hk hl, cond_true, eqPt]
          have c3 : decide (s'.length + 1 ≤ 4294967296) = true := decide_eq_true (by omega)
          change (bif decide (S_gap x0[i] x0[k] < x1) then (bif (!decide (x0[i].1 = x0[k].1)) then (bif decide (s'.length + 1 ≤ 4294967296) then rec2 (_, (s' ++ [((i : Int), ((k : Int), (S_gap x0[i] x0[k], ())))], ())) else none) else _) else _) = _
          rw [c3]
          unfold nearF
          cases decide (S_gap x0[i] x0[k] < x1) <;> cases decide (x0[i].1 = x0[k].1) <;> rfl⟩
noncomputable def E_drill_Near : Entry Try.prog := Entry.of tok T_drill_Near I_drill_Near it_drill_Near (fun (x0, x1, ()) => some (((S_NearP x0 x1).1, (S_NearP x0 x1).2, ()), ((), (), ()))) (fun (x0, x1, ()) r hok h => by cases h; exact ok_drill_Near x0 x1 hok)

end Go.Proofs.Ytlibmodfpkhdpaa
namespace Go.Proofs.Ytlibmodfpkhdpaa
open Go Go.VM
/-! ### etchhouse.drill.checkPoints$1 -/
noncomputable def I_drill_checkPoints_1 : Inst := ⟨47, Try.f47, .two (.reg []) (.two (.reg [(1, 0)]) (.leaf)), (.cons (.pv (.pair i (.pair i .unit))) .nil), (.cons .flat .bool .nil)⟩
theorem it_drill_checkPoints_1 : InTab Try.prog I_drill_checkPoints_1 := ⟨Try.func47, by kernel_rfl, rfl⟩
noncomputable def T_drill_checkPoints_1 : Nat → Entry Try.prog := nth (Entry.no Try.f0) [E_shape_IsPoint]
noncomputable def B_drill_checkPoints_1 (x0 : (Int × (Int × Unit))) : Option (((Bool × Unit) × (Unit × Unit))) :=
  some (((!(S_isPt x0)), ()), ((), ()))
theorem B_drill_checkPoints_1_eq (n : Nat) (x0 : (Int × (Int × Unit))) : bodyE ty T_drill_checkPoints_1 n I_drill_checkPoints_1 (x0, ()) = B_drill_checkPoints_1 x0 := by kernel_rfl
theorem ok_drill_checkPoints_1 (x0 : Int × Int × Unit) (hok : OkA I_drill_checkPoints_1.args (x0, ())) : ∃ n, bodyE ty T_drill_checkPoints_1 n I_drill_checkPoints_1 (x0, ()) = some ((!S_isPt x0, ()), ((), ())) := ⟨0, by rw [B_drill_checkPoints_1_eq]; rfl⟩
noncomputable def E_drill_checkPoints_1 : Entry Try.prog := Entry.of tok T_drill_checkPoints_1 I_drill_checkPoints_1 it_drill_checkPoints_1 (fun (x0, ()) => some ((!S_isPt x0, ()), ((), ()))) (fun (x0, ()) r hok h => by cases h; exact ok_drill_checkPoints_1 x0 hok)

end Go.Proofs.Ytlibmodfpkhdpaa
namespace Go.Proofs.Ytlibmodfpkhdpaa
open Go Go.VM
/-! ### slices.IndexFunc[[]etchhouse.api.Point,etchhouse.api.Point] -/
noncomputable def I_slices_IndexFunc_etchhouse_api_Point_etchhouse_api_Point_of_drill_checkPoints_1 : Inst := ⟨54, Try.f54, .two (.reg []) (.two (.two (.reg []) (.one (.loop ⟨[(8, .pv i)], [], [0, 1, 7], []⟩ (.two (.reg []) (.two (.two (.leaf) (.leaf)) (.two (.one (.two (.reg []) (.two (.reg [(5, 0)]) (.two (.two (.reg []) (.leaf)) (.leaf))))) (.reg []))))))) (.two (.reg []) (.leaf))), (.cons (.pv (.sl (.pair i (.pair i .unit)))) (.cons (.fn 47 .nil) .nil)), (.cons .flat i .nil)⟩
theorem it_slices_IndexFunc_etchhouse_api_Point_etchhouse_api_Point_of_drill_checkPoints_1 : InTab Try.prog I_slices_IndexFunc_etchhouse_api_Point_etchhouse_api_Point_of_drill_checkPoints_1 := ⟨Try.func54, by kernel_rfl, rfl⟩
noncomputable def T_slices_IndexFunc_etchhouse_api_Point_etchhouse_api_Point_of_drill_checkPoints_1 : Nat → Entry Try.prog := nth (Entry.no Try.f0) [E_drill_checkPoints_1]
noncomputable def B_slices_IndexFunc_etchhouse_api_Point_etchhouse_api_Point_of_drill_checkPoints_1 (n : Nat) (x0 : List (Int × (Int × Unit))) (x1 : Unit) : Option (((Int × Unit) × (Unit × (Unit × Unit)))) :=
  loopN (fun rec1 => fun
  | ((v1aa, ()), ()) =>
    (bif decide ((v1aa < ((x0.length : Nat) : Int))) then
      (bif inB v1aa x0.length then
        (bif (!(S_isPt (x0.getD v1aa.toNat (0, (0, ()))))) then
          some ((v1aa, ()), ((), ((), ())))
        else
          rec1 ((wrapI .i64 (v1aa + 1), ()), ()))
      else
        none)
    else
      some (((-1), ()), ((), ((), ())))))
  n ((0, ()), ())
theorem B_slices_IndexFunc_etchhouse_api_Point_etchhouse_api_Point_of_drill_checkPoints_1_eq (n : Nat) (x0 : List (Int × (Int × Unit))) (x1 : Unit) : bodyE ty T_slices_IndexFunc_etchhouse_api_Point_etchhouse_api_Point_of_drill_checkPoints_1 n I_slices_IndexFunc_etchhouse_api_Point_etchhouse_api_Point_of_drill_checkPoints_1 (x0, (x1, ())) = B_slices_IndexFunc_etchhouse_api_Point_etchhouse_api_Point_of_drill_checkPoints_1 n x0 x1 := by kernel_rfl
def S_idxPt : List (Int × Int × Unit) → Nat → Int
  | [], _ => -1
  | a :: r, i => bif S_isPt a then S_idxPt r (i + 1) else (i : Int)
theorem idxPt_neg : ∀ (l : List (Int × Int × Unit)) (i : Nat), decide (0 ≤ S_idxPt l i) = !l.all S_isPt
  | [], i => by simp [S_idxPt]
  | a :: r, i => by
    have ih := idxPt_neg r (i + 1)
    by_cases h : S_isPt a = true
    · have : S_idxPt (a :: r) i = S_idxPt r (i + 1) := by simp only [S_idxPt, h, cond_true]
      rw [this, ih]; simp [h]
    · have h : S_isPt a = false := by simpa using h
      have : S_idxPt (a :: r) i = i := by simp only [S_idxPt, h, cond_false]
      rw [this]; simp [h]
theorem ok_slices_IndexFunc_etchhouse_api_Point_etchhouse_api_Point_of_drill_checkPoints_1 (x0 : List (Int × Int × Unit)) (hok : OkA I_slices_IndexFunc_etchhouse_api_Point_etchhouse_api_Point_of_drill_checkPoints_1.args (x0, (), ())) : ∃ n, bodyE ty T_slices_IndexFunc_etchhouse_api_Point_etchhouse_api_Point_of_drill_checkPoints_1 n I_slices_IndexFunc_etchhouse_api_Point_etchhouse_api_Point_of_drill_checkPoints_1 (x0, (), ()) = some ((S_idxPt x0 0, ()), ((), (), ())) := ⟨x0.length + 1, by
  obtain ⟨⟨hl, _⟩, _⟩ := hok
  rw [B_slices_IndexFunc_etchhouse_api_Point_etchhouse_api_Point_of_drill_checkPoints_1_eq]
  unfold B_slices_IndexFunc_etchhouse_api_Point_etchhouse_api_Point_of_drill_checkPoints_1
  refine (loop_list (l := x0) (fun i (_ : Unit) => ((i, ()), ())) (fun a i _ => bif S_isPt a then .inl () else .inr (some (((i : Int), ()), ((), (), ())))) (fun _ => some ((-1, ()), ((), (), ()))) (fun i h s rec => ?_) (fun s rec => ?_) (Nat.lt_succ_self _) ()).trans ?_
  · simp only [lt_nat h, inB_nat h, getD_lt h, succ64 h hl, cond_true]
    cases S_isPt x0[i] <;> rfl
  · simp only [lt_self, cond_false]
  · have : ∀ (l : List (Int × Int × Unit)) i, goL (fun a i (_ : Unit) => bif S_isPt a then .inl () else .inr (some (((i : Int), ()), ((), (), ())))) (fun _ => some ((-1, ()), ((), (), ()))) l i () = some ((S_idxPt l i, ()), ((), (), ())) := by
      intro l
      induction l with
      | nil => intro i; rfl
      | cons a r ih =>
        intro i
        simp only [goL, S_idxPt]
        cases S_isPt a with
        | true => simpa using ih (i + 1)
        | false => rfl
    exact this x0 0⟩
noncomputable def E_slices_IndexFunc_etchhouse_api_Point_etchhouse_api_Point_of_drill_checkPoints_1 : Entry Try.prog := Entry.of tok T_slices_IndexFunc_etchhouse_api_Point_etchhouse_api_Point_of_drill_checkPoints_1 I_slices_IndexFunc_etchhouse_api_Point_etchhouse_api_Point_of_drill_checkPoints_1 it_slices_IndexFunc_etchhouse_api_Point_etchhouse_api_Point_of_drill_checkPoints_1 (fun (x0, (), ()) => some ((S_idxPt x0 0, ()), ((), (), ()))) (fun (x0, (), ()) r hok h => by cases h; exact ok_slices_IndexFunc_etchhouse_api_Point_etchhouse_api_Point_of_drill_checkPoints_1 x0 hok)

end Go.Proofs.Ytlibmodfpkhdpaa
namespace Go.Proofs.Ytlibmodfpkhdpaa
open Go Go.VM
/-! ### slices.ContainsFunc[[]etchhouse.api.Point,etchhouse.api.Point] -/
noncomputable def I_slices_ContainsFunc_etchhouse_api_Point_etchhouse_api_Point_of_drill_checkPoints_1 : Inst := ⟨46, Try.f46, .two (.reg []) (.two (.reg [(2, 0)]) (.leaf)), (.cons (.pv (.sl (.pair i (.pair i .unit)))) (.cons (.fn 47 .nil) .nil)), (.cons .flat .bool .nil)⟩
theorem it_slices_ContainsFunc_etchhouse_api_Point_etchhouse_api_Point_of_drill_checkPoints_1 : InTab Try.prog I_slices_ContainsFunc_etchhouse_api_Point_etchhouse_api_Point_of_drill_checkPoints_1 := ⟨Try.func46, by kernel_rfl, rfl⟩
noncomputable def T_slices_ContainsFunc_etchhouse_api_Point_etchhouse_api_Point_of_drill_checkPoints_1 : Nat → Entry Try.prog := nth (Entry.no Try.f0) [E_slices_IndexFunc_etchhouse_api_Point_etchhouse_api_Point_of_drill_checkPoints_1]
noncomputable def B_slices_ContainsFunc_etchhouse_api_Point_etchhouse_api_Point_of_drill_checkPoints_1 (x0 : List (Int × (Int × Unit))) (x1 : Unit) : Option (((Bool × Unit) × (Unit × (Unit × Unit)))) :=
  some ((decide ((0 ≤ S_idxPt x0 0)), ()), ((), ((), ())))
theorem B_slices_ContainsFunc_etchhouse_api_Point_etchhouse_api_Point_of_drill_checkPoints_1_eq (n : Nat) (x0 : List (Int × (Int × Unit))) (x1 : Unit) : bodyE ty T_slices_ContainsFunc_etchhouse_api_Point_etchhouse_api_Point_of_drill_checkPoints_1 n I_slices_ContainsFunc_etchhouse_api_Point_etchhouse_api_Point_of_drill_checkPoints_1 (x0, (x1, ())) = B_slices_ContainsFunc_etchhouse_api_Point_etchhouse_api_Point_of_drill_checkPoints_1 x0 x1 := by kernel_rfl
noncomputable def E_slices_ContainsFunc_etchhouse_api_Point_etchhouse_api_Point_of_drill_checkPoints_1 : Entry Try.prog := Entry.of tok T_slices_ContainsFunc_etchhouse_api_Point_etchhouse_api_Point_of_drill_checkPoints_1 I_slices_ContainsFunc_etchhouse_api_Point_etchhouse_api_Point_of_drill_checkPoints_1 it_slices_ContainsFunc_etchhouse_api_Point_etchhouse_api_Point_of_drill_checkPoints_1 (fun x => B_slices_ContainsFunc_etchhouse_api_Point_etchhouse_api_Point_of_drill_checkPoints_1 x.1 x.2.1) (fun (a0, a1, ()) r _ h => ⟨0, (B_slices_ContainsFunc_etchhouse_api_Point_etchhouse_api_Point_of_drill_checkPoints_1_eq 0 a0 a1).trans h⟩)

end Go.Proofs.Ytlibmodfpkhdpaa
namespace Go.Proofs.Ytlibmodfpkhdpaa
open Go Go.VM
/-! ### etchhouse.drill.checkPoints -/
noncomputable def I_drill_checkPoints : Inst := ⟨26, Try.f26, .two (.reg []) (.two (.two (.reg []) (.two (.two (.reg []) (.leaf)) (.leaf))) (.two (.two (.reg [(1, 0), (5, 1)]) (.two (.two (.reg []) (.leaf)) (.leaf))) (.two (.reg []) (.leaf)))), (.cons (.pv (.sl (.pair i (.pair i .unit)))) (.cons (.pv (.pair i (.pair i .unit))) (.cons (.pv i) .nil))), (.cons .flat i .nil)⟩
theorem it_drill_checkPoints : InTab Try.prog I_drill_checkPoints := ⟨Try.func26, by kernel_rfl, rfl⟩
noncomputable def T_drill_checkPoints : Nat → Entry Try.prog := nth (Entry.no Try.f0) [E_shape_IsPoint, E_slices_ContainsFunc_etchhouse_api_Point_etchhouse_api_Point_of_drill_checkPoints_1]
noncomputable def B_drill_checkPoints (x0 : List (Int × (Int × Unit))) (x1 : (Int × (Int × Unit))) (x2 : Int) : Option (((Int × Unit) × (Unit × (Unit × (Unit × Unit))))) :=
  (bif decide ((x2 < ((x0.length : Nat) : Int))) then
    some ((2, ()), ((), ((), ((), ()))))
  else
    (bif (!(S_isPt x1)) then
      some ((1, ()), ((), ((), ((), ()))))
    else
      ((B_slices_ContainsFunc_etchhouse_api_Point_etchhouse_api_Point_of_drill_checkPoints_1 x0 ()).bind fun ((r1aa, ()), ((), ((), ()))) =>
      (bif r1aa then
        some ((1, ()), ((), ((), ((), ()))))
      else
        some ((0, ()), ((), ((), ((), ()))))))))
theorem B_drill_checkPoints_eq (n : Nat) (x0 : List (Int × (Int × Unit))) (x1 : (Int × (Int × Unit))) (x2 : Int) : bodyE ty T_drill_checkPoints n I_drill_checkPoints (x0, (x1, (x2, ()))) = B_drill_checkPoints x0 x1 x2 := by kernel_rfl
def S_chk (l : List Pt) (p : Pt) (most : Int) : Int := bif decide (most < (l.length : Int)) then 2 else bif S_isPt p && l.all S_isPt then 0 else 1
theorem ok_drill_checkPoints (x0 : List Pt) (x1 : Pt) (x2 : Int) (hok : OkA I_drill_checkPoints.args (x0, x1, x2, ())) : ∃ n, bodyE ty T_drill_checkPoints n I_drill_checkPoints (x0, x1, x2, ()) = some ((S_chk x0 x1 x2, ()), ((), (), (), ())) := ⟨0, by
  rw [B_drill_checkPoints_eq]
  unfold B_drill_checkPoints S_chk
  cases decide (x2 < (x0.length : Int)) with
  | true => rfl
  | false =>
    cases S_isPt x1 with
    | false => rfl
    | true =>
      have : B_slices_ContainsFunc_etchhouse_api_Point_etchhouse_api_Point_of_drill_checkPoints_1 x0 () = some ((!x0.all S_isPt, ()), ((), ((), ()))) := by
        unfold B_slices_ContainsFunc_etchhouse_api_Point_etchhouse_api_Point_of_drill_checkPoints_1
        rw [idxPt_neg]
      simp only [cond_false, Bool.not_true, this, Option.bind_some, Bool.true_and]
      cases x0.all S_isPt <;> rfl⟩
noncomputable def E_drill_checkPoints : Entry Try.prog := Entry.of tok T_drill_checkPoints I_drill_checkPoints it_drill_checkPoints (fun (x0, x1, x2, ()) => some ((S_chk x0 x1 x2, ()), ((), (), (), ()))) (fun (x0, x1, x2, ()) r hok h => by cases h; exact ok_drill_checkPoints x0 x1 x2 hok)

end Go.Proofs.Ytlibmodfpkhdpaa
namespace Go.Proofs.Ytlibmodfpkhdpaa
open Go Go.VM
/-! ### etchhouse.drill.far -/
noncomputable def I_drill_far : Inst := ⟨39, Try.f39, .two (.reg []) (.two (.draw [(4, 0), (9, 0)] [0, 1, 2, 3, 5, 6, 7, 8, 4, 9, 10, 11] [3, 2]) (.leaf)), (.cons (.pv (.pair i (.pair i .unit))) (.cons (.pv (.pair i (.pair i .unit))) .nil)), (.cons .flat i .nil)⟩
theorem it_drill_far : InTab Try.prog I_drill_far := ⟨Try.func39, by kernel_rfl, rfl⟩
noncomputable def T_drill_far : Nat → Entry Try.prog := nth (Entry.no Try.f0) [E_drill_apart]
noncomputable def B_drill_far (x0 : (Int × (Int × Unit))) (x1 : (Int × (Int × Unit))) : Option (((Int × Unit) × (Unit × (Unit × Unit)))) :=
  some (((bif decide ((S_apart x0.1 x1.1 < S_apart x0.2.1 x1.2.1)) then S_apart x0.2.1 x1.2.1 else S_apart x0.1 x1.1), ()), ((), ((), ())))
theorem B_drill_far_eq (n : Nat) (x0 : (Int × (Int × Unit))) (x1 : (Int × (Int × Unit))) : bodyE ty T_drill_far n I_drill_far (x0, (x1, ())) = B_drill_far x0 x1 := by kernel_rfl
def S_far (p q : Pt) : Int := bif decide (S_apart p.1 q.1 < S_apart p.2.1 q.2.1) then S_apart p.2.1 q.2.1 else S_apart p.1 q.1
theorem ok_drill_far (x0 x1 : Pt) (hok : OkA I_drill_far.args (x0, x1, ())) : ∃ n, bodyE ty T_drill_far n I_drill_far (x0, x1, ()) = some ((S_far x0 x1, ()), ((), (), ())) := ⟨0, by rw [B_drill_far_eq]; rfl⟩
noncomputable def E_drill_far : Entry Try.prog := Entry.of tok T_drill_far I_drill_far it_drill_far (fun (x0, x1, ()) => some ((S_far x0 x1, ()), ((), (), ()))) (fun (x0, x1, ()) r hok h => by cases h; exact ok_drill_far x0 x1 hok)

end Go.Proofs.Ytlibmodfpkhdpaa
namespace Go.Proofs.Ytlibmodfpkhdpaa
open Go Go.VM
/-! ### etchhouse.drill.way -/
noncomputable def I_drill_way : Inst := ⟨27, Try.f27, .two (.reg []) (.two (.reg []) (.two (.two (.reg []) (.one (.loop ⟨[(5, .pv i), (10, .pv i)], [(3, ⟨.flat, (.pair i (.pair i .unit)), true, false⟩)], [3, 8, 9], []⟩ (.two (.reg []) (.two (.two (.leaf) (.leaf)) (.two (.one (.two (.reg []) (.two (.reg [(3, 0)]) (.reg [])))) (.reg []))))))) (.two (.reg []) (.leaf)))), (.cons (.pv (.sl (.pair i (.pair i .unit)))) (.cons (.pv (.pair i (.pair i .unit))) .nil)), (.cons .flat i .nil)⟩
theorem it_drill_way : InTab Try.prog I_drill_way := ⟨Try.func27, by kernel_rfl, rfl⟩
noncomputable def T_drill_way : Nat → Entry Try.prog := nth (Entry.no Try.f0) [E_drill_far]
noncomputable def B_drill_way (n : Nat) (x0 : List (Int × (Int × Unit))) (x1 : (Int × (Int × Unit))) : Option (((Int × Unit) × (Unit × (Unit × Unit)))) :=
  loopN (fun rec1 => fun
  | ((v1aa, (v1aba, ())), ((v1baa, (v1baba, ())), ())) =>
    (bif decide ((v1aba < ((x0.length : Nat) : Int))) then
      (bif inB v1aba x0.length then
        rec1 ((wrapI .i64 (v1aa + S_far (v1baa, (v1baba, ())) (x0.getD v1aba.toNat (0, (0, ())))), (wrapI .i64 (v1aba + 1), ())), (x0.getD v1aba.toNat (0, (0, ())), ()))
      else
        none)
    else
      some ((v1aa, ()), ((), ((), ())))))
  n ((0, (0, ())), (x1, ()))
theorem B_drill_way_eq (n : Nat) (x0 : List (Int × (Int × Unit))) (x1 : (Int × (Int × Unit))) : bodyE ty T_drill_way n I_drill_way (x0, (x1, ())) = B_drill_way n x0 x1 := by kernel_rfl
theorem ok_drill_way (x0 : List Pt) (x1 : Pt) (hok : OkA I_drill_way.args (x0, x1, ())) : ∃ n, bodyE ty T_drill_way n I_drill_way (x0, x1, ()) = some ((S_way S_far x0 x1, ()), ((), (), ())) := ⟨x0.length + 1, by
  obtain ⟨⟨hl, _⟩, _⟩ := hok
  rw [B_drill_way_eq]
  unfold B_drill_way
  refine (loop_fold (l := x0) (fun i (s : Int × Pt) => ((s.1, (i, ())), (s.2, ()))) (fun _ _ => True) (wayF S_far) (fun s => some ((s.1, ()), ((), (), ()))) (fun i h s _ => ?_) (fun s _ rec => ?_) (Nat.lt_succ_self _) (s := (0, x1)) trivial)
  · obtain ⟨s, a, b, ⟨⟩⟩ := s
    exact ⟨trivial, fun rec => by simp only [lt_nat h, inB_nat h, getD_lt h, succ64 h hl, cond_true]; rfl⟩
  · obtain ⟨s, a, b, ⟨⟩⟩ := s
    simp only [lt_self, cond_false]⟩
noncomputable def E_drill_way : Entry Try.prog := Entry.of tok T_drill_way I_drill_way it_drill_way (fun (x0, x1, ()) => some ((S_way S_far x0 x1, ()), ((), (), ()))) (fun (x0, x1, ()) r hok h => by cases h; exact ok_drill_way x0 x1 hok)

end Go.Proofs.Ytlibmodfpkhdpaa
namespace Go.Proofs.Ytlibmodfpkhdpaa
open Go Go.VM
/-! ### etchhouse.drill.Way -/
noncomputable def I_drill_Way : Inst := ⟨9, Try.f9, .two (.reg []) (.two (.two (.reg [(2, 0)]) (.two (.reg []) (.two (.two (.reg []) (.leaf)) (.leaf)))) (.two (.reg [(2, 1)]) (.leaf))), (.cons (.pv (.sl (.pair i (.pair i .unit)))) (.cons (.pv (.pair i (.pair i .unit))) .nil)), (.cons .flat i (.cons .flat i .nil))⟩
theorem it_drill_Way : InTab Try.prog I_drill_Way := ⟨Try.func9, by kernel_rfl, rfl⟩
noncomputable def T_drill_Way : Nat → Entry Try.prog := nth (Entry.no Try.f0) [E_drill_checkPoints, E_drill_way]
noncomputable def B_drill_Way (x0 : List (Int × (Int × Unit))) (x1 : (Int × (Int × Unit))) : Option (((Int × (Int × Unit)) × (Unit × (Unit × Unit)))) :=
  (bif (!(decide ((S_chk x0 x1 2000 = 0)))) then
    some ((0, (S_chk x0 x1 2000, ())), ((), ((), ())))
  else
    some ((S_way S_far x0 x1, (0, ())), ((), ((), ()))))
theorem B_drill_Way_eq (n : Nat) (x0 : List (Int × (Int × Unit))) (x1 : (Int × (Int × Unit))) : bodyE ty T_drill_Way n I_drill_Way (x0, (x1, ())) = B_drill_Way x0 x1 := by kernel_rfl
def S_WayP (x0 : List Pt) (x1 : Pt) : Int × Int := bif decide (S_chk x0 x1 2000 = 0) then (S_way S_far x0 x1, 0) else (0, S_chk x0 x1 2000)
theorem ok_drill_Way (x0 : List Pt) (x1 : Pt) (hok : OkA I_drill_Way.args (x0, x1, ())) : ∃ n, bodyE ty T_drill_Way n I_drill_Way (x0, x1, ()) = some (((S_WayP x0 x1).1, (S_WayP x0 x1).2, ()), ((), (), ())) := ⟨0, by
  rw [B_drill_Way_eq]
  unfold B_drill_Way S_WayP
  cases decide (S_chk x0 x1 2000 = 0) <;> rfl⟩
noncomputable def E_drill_Way : Entry Try.prog := Entry.of tok T_drill_Way I_drill_Way it_drill_Way (fun (x0, x1, ()) => some (((S_WayP x0 x1).1, (S_WayP x0 x1).2, ()), ((), (), ()))) (fun (x0, x1, ()) r hok h => by cases h; exact ok_drill_Way x0 x1 hok)

end Go.Proofs.Ytlibmodfpkhdpaa
namespace Go.Proofs.Ytlibmodfpkhdpaa
open Go Go.VM
/-! ### etchhouse.etchhouselaw8.awake -/
noncomputable def I_etchhouselaw8_awake : Inst := ⟨14, Try.f14, .two (.reg []) (.two (.reg [(5, 0)]) (.two (.reg []) (.leaf))), .nil, (.cons .flat .bool .nil)⟩
theorem it_etchhouselaw8_awake : InTab Try.prog I_etchhouselaw8_awake := ⟨Try.func14, by kernel_rfl, rfl⟩
noncomputable def T_etchhouselaw8_awake : Nat → Entry Try.prog := nth (Entry.no Try.f0) [E_drill_Way]
noncomputable def B_etchhouselaw8_awake  : Option (((Bool × Unit) × Unit)) :=
  some ((true, ()), ())
theorem B_etchhouselaw8_awake_eq (n : Nat)  : bodyE ty T_etchhouselaw8_awake n I_etchhouselaw8_awake () = B_etchhouselaw8_awake  := by kernel_rfl
noncomputable def E_etchhouselaw8_awake : Entry Try.prog := Entry.of tok T_etchhouselaw8_awake I_etchhouselaw8_awake it_etchhouselaw8_awake (fun x => B_etchhouselaw8_awake ) (fun () r _ h => ⟨0, (B_etchhouselaw8_awake_eq 0 ).trans h⟩)

end Go.Proofs.Ytlibmodfpkhdpaa
namespace Go.Proofs.Ytlibmodfpkhdpaa
open Go Go.VM
/-! ### slices.Index[[]etchhouse.api.Pair,etchhouse.api.Pair] -/
noncomputable def I_slices_Index_etchhouse_api_Pair_etchhouse_api_Pair : Inst := ⟨35, Try.f35, .two (.reg []) (.two (.two (.reg []) (.one (.loop ⟨[(8, .pv i)], [], [0, 3, 7], [3]⟩ (.two (.reg []) (.two (.two (.leaf) (.leaf)) (.two (.one (.two (.reg []) (.two (.draw [] [0, 1, 2, 3, 4, 5] [3]) (.two (.two (.reg []) (.leaf)) (.leaf))))) (.reg []))))))) (.two (.reg []) (.leaf))), (.cons (.pv (.sl (.pair i (.pair i (.pair i .unit))))) (.cons (.pv (.pair i (.pair i (.pair i .unit)))) .nil)), (.cons .flat i .nil)⟩
theorem it_slices_Index_etchhouse_api_Pair_etchhouse_api_Pair : InTab Try.prog I_slices_Index_etchhouse_api_Pair_etchhouse_api_Pair := ⟨Try.func35, by kernel_rfl, rfl⟩
noncomputable def T_slices_Index_etchhouse_api_Pair_etchhouse_api_Pair : Nat → Entry Try.prog := nth (Entry.no Try.f0) []
noncomputable def B_slices_Index_etchhouse_api_Pair_etchhouse_api_Pair (n : Nat) (x0 : List (Int × (Int × (Int × Unit)))) (x1 : (Int × (Int × (Int × Unit)))) : Option (((Int × Unit) × (Unit × (Unit × Unit)))) :=
  loopN (fun rec1 => fun
  | ((v1aa, ()), ()) =>
    (bif decide ((v1aa < ((x0.length : Nat) : Int))) then
      (bif inB v1aa x0.length then
        (bif Ty.eqv (.pair (.int .i64) (.pair (.int .i64) (.pair (.int .i64) .unit))) x1 (x0.getD v1aa.toNat (0, (0, (0, ())))) then
          some ((v1aa, ()), ((), ((), ())))
        else
          rec1 ((wrapI .i64 (v1aa + 1), ()), ()))
      else
        none)
    else
      some (((-1), ()), ((), ((), ())))))
  n ((0, ()), ())
theorem B_slices_Index_etchhouse_api_Pair_etchhouse_api_Pair_eq (n : Nat) (x0 : List (Int × (Int × (Int × Unit)))) (x1 : (Int × (Int × (Int × Unit)))) : bodyE ty T_slices_Index_etchhouse_api_Pair_etchhouse_api_Pair n I_slices_Index_etchhouse_api_Pair_etchhouse_api_Pair (x0, (x1, ())) = B_slices_Index_etchhouse_api_Pair_etchhouse_api_Pair n x0 x1 := by kernel_rfl
def S_idxPr : List Pr → Pr → Nat → Int
  | [], _, _ => -1
  | a :: r, x, i => bif decide (x = a) then (i : Int) else S_idxPr r x (i + 1)
theorem eqPr (x a : Pr) : Ty.eqv (.pair (.int .i64) (.pair (.int .i64) (.pair (.int .i64) .unit))) x a = decide (x = a) := by
  obtain ⟨x1, x2, x3, ⟨⟩⟩ := x
  obtain ⟨a1, a2, a3, ⟨⟩⟩ := a
  simp only [Ty.eqv]
  rw [Bool.eq_iff_iff]
  simp
theorem idxPr_in : ∀ (l : List Pr) (x : Pr) (i : Nat), decide (0 ≤ S_idxPr l x i) = decide (x ∈ l)
  | [], x, i => by simp [S_idxPr]
  | a :: r, x, i => by
    have ih := idxPr_in r x (i + 1)
    by_cases h : x = a
    · have : S_idxPr (a :: r) x i = i := by simp only [S_idxPr, decide_eq_true h, cond_true]
      rw [this]; simp [h]
    · have : S_idxPr (a :: r) x i = S_idxPr r x (i + 1) := by simp only [S_idxPr, decide_eq_false h, cond_false]
      rw [this, ih]; simp [h]
theorem ok_slices_Index_etchhouse_api_Pair_etchhouse_api_Pair (x0 : List Pr) (x1 : Pr) (hok : OkA I_slices_Index_etchhouse_api_Pair_etchhouse_api_Pair.args (x0, x1, ())) : ∃ n, bodyE ty T_slices_Index_etchhouse_api_Pair_etchhouse_api_Pair n I_slices_Index_etchhouse_api_Pair_etchhouse_api_Pair (x0, x1, ()) = some ((S_idxPr x0 x1 0, ()), ((), (), ())) := ⟨x0.length + 1, by
  obtain ⟨⟨hl, _⟩, _⟩ := hok
  rw [B_slices_Index_etchhouse_api_Pair_etchhouse_api_Pair_eq]
  unfold B_slices_Index_etchhouse_api_Pair_etchhouse_api_Pair
  refine (loop_list (l := x0) (fun i (_ : Unit) => ((i, ()), ())) (fun a i _ => bif decide (x1 = a) then .inr (some (((i : Int), ()), ((), (), ()))) else .inl ()) (fun _ => some ((-1, ()), ((), (), ()))) (fun i h s rec => ?_) (fun s rec => ?_) (Nat.lt_succ_self _) ()).trans ?_
  · simp only [lt_nat h, inB_nat h, getD_lt h, succ64 h hl, cond_true, eqPr]
    cases decide (x1 = x0[i]) <;> rfl
  · simp only [lt_self, cond_false]
  · have : ∀ (l : List Pr) i, goL (fun a i (_ : Unit) => bif decide (x1 = a) then .inr (some (((i : Int), ()), ((), (), ()))) else .inl ()) (fun _ => some (((-1 : Int), ()), ((), (), ()))) l i () = some ((S_idxPr l x1 i, ()), ((), (), ())) := by
      intro l
      induction l with
      | nil => intro i; rfl
      | cons a r ih =>
        intro i
        simp only [goL, S_idxPr]
        cases decide (x1 = a) with
        | false => simpa using ih (i + 1)
        | true => rfl
    exact this x0 0⟩
noncomputable def E_slices_Index_etchhouse_api_Pair_etchhouse_api_Pair : Entry Try.prog := Entry.of tok T_slices_Index_etchhouse_api_Pair_etchhouse_api_Pair I_slices_Index_etchhouse_api_Pair_etchhouse_api_Pair it_slices_Index_etchhouse_api_Pair_etchhouse_api_Pair (fun (x0, x1, ()) => some ((S_idxPr x0 x1 0, ()), ((), (), ()))) (fun (x0, x1, ()) r hok h => by cases h; exact ok_slices_Index_etchhouse_api_Pair_etchhouse_api_Pair x0 x1 hok)

end Go.Proofs.Ytlibmodfpkhdpaa
namespace Go.Proofs.Ytlibmodfpkhdpaa
open Go Go.VM
/-! ### slices.Contains[[]etchhouse.api.Pair,etchhouse.api.Pair] -/
noncomputable def I_slices_Contains_etchhouse_api_Pair_etchhouse_api_Pair : Inst := ⟨16, Try.f16, .two (.reg []) (.two (.reg [(2, 0)]) (.leaf)), (.cons (.pv (.sl (.pair i (.pair i (.pair i .unit))))) (.cons (.pv (.pair i (.pair i (.pair i .unit)))) .nil)), (.cons .flat .bool .nil)⟩
theorem it_slices_Contains_etchhouse_api_Pair_etchhouse_api_Pair : InTab Try.prog I_slices_Contains_etchhouse_api_Pair_etchhouse_api_Pair := ⟨Try.func16, by kernel_rfl, rfl⟩
noncomputable def T_slices_Contains_etchhouse_api_Pair_etchhouse_api_Pair : Nat → Entry Try.prog := nth (Entry.no Try.f0) [E_slices_Index_etchhouse_api_Pair_etchhouse_api_Pair]
noncomputable def B_slices_Contains_etchhouse_api_Pair_etchhouse_api_Pair (x0 : List (Int × (Int × (Int × Unit)))) (x1 : (Int × (Int × (Int × Unit)))) : Option (((Bool × Unit) × (Unit × (Unit × Unit)))) :=
  some ((decide ((0 ≤ S_idxPr x0 x1 0)), ()), ((), ((), ())))
theorem B_slices_Contains_etchhouse_api_Pair_etchhouse_api_Pair_eq (n : Nat) (x0 : List (Int × (Int × (Int × Unit)))) (x1 : (Int × (Int × (Int × Unit)))) : bodyE ty T_slices_Contains_etchhouse_api_Pair_etchhouse_api_Pair n I_slices_Contains_etchhouse_api_Pair_etchhouse_api_Pair (x0, (x1, ())) = B_slices_Contains_etchhouse_api_Pair_etchhouse_api_Pair x0 x1 := by kernel_rfl
def S_has (l : List Pr) (p : Pr) : Bool := decide (p ∈ l)
theorem ok_slices_Contains_etchhouse_api_Pair_etchhouse_api_Pair (x0 : List Pr) (x1 : Pr) (hok : OkA I_slices_Contains_etchhouse_api_Pair_etchhouse_api_Pair.args (x0, x1, ())) : ∃ n, bodyE ty T_slices_Contains_etchhouse_api_Pair_etchhouse_api_Pair n I_slices_Contains_etchhouse_api_Pair_etchhouse_api_Pair (x0, x1, ()) = some ((S_has x0 x1, ()), ((), (), ())) := ⟨0, by
  rw [B_slices_Contains_etchhouse_api_Pair_etchhouse_api_Pair_eq]; unfold B_slices_Contains_etchhouse_api_Pair_etchhouse_api_Pair; rw [idxPr_in]; rfl⟩
noncomputable def E_slices_Contains_etchhouse_api_Pair_etchhouse_api_Pair : Entry Try.prog := Entry.of tok T_slices_Contains_etchhouse_api_Pair_etchhouse_api_Pair I_slices_Contains_etchhouse_api_Pair_etchhouse_api_Pair it_slices_Contains_etchhouse_api_Pair_etchhouse_api_Pair (fun (x0, x1, ()) => some ((S_has x0 x1, ()), ((), (), ()))) (fun (x0, x1, ()) r hok h => by cases h; exact ok_slices_Contains_etchhouse_api_Pair_etchhouse_api_Pair x0 x1 hok)

end Go.Proofs.Ytlibmodfpkhdpaa
namespace Go.Proofs.Ytlibmodfpkhdpaa
open Go Go.VM
/-! ### etchhouse.etchhouselaw8.DrillNearGrows -/
noncomputable def I_etchhouselaw8_DrillNearGrows : Inst := ⟨4, Try.f4, .two (.reg []) (.two (.reg [(2, 0)]) (.two (.reg [(2, 0)]) (.two (.two (.reg []) (.two (.two (.reg [(8, 1)]) (.leaf)) (.leaf))) (.two (.two (.reg []) (.one (.loop ⟨[(50, .pv i)], [], [1, 7, 9, 48, 49], [7, 9]⟩ (.two (.reg []) (.two (.two (.leaf) (.leaf)) (.two (.one (.two (.reg []) (.two (.reg [(2, 2)]) (.two (.two (.reg []) (.leaf)) (.leaf))))) (.reg []))))))) (.two (.two (.reg []) (.one (.loop ⟨[(74, .pv i)], [], [1, 7, 72, 73], [7, 9]⟩ (.two (.reg []) (.two (.two (.leaf) (.leaf)) (.two (.one (.two (.reg []) (.two (.reg [(7, 2)]) (.two (.two (.reg []) (.leaf)) (.leaf))))) (.reg []))))))) (.two (.reg [(0, 1)]) (.leaf))))))), (.cons (.pv (.sl (.pair (.pair i (.pair i .unit)) (.pair i (.pair i (.pair .bool .unit)))))) (.cons (.pv i) (.cons (.pv i) .nil))), (.cons .flat .bool .nil)⟩
theorem it_etchhouselaw8_DrillNearGrows : InTab Try.prog I_etchhouselaw8_DrillNearGrows := ⟨Try.func4, by kernel_rfl, rfl⟩
noncomputable def T_etchhouselaw8_DrillNearGrows : Nat → Entry Try.prog := nth (Entry.no Try.f0) [E_drill_Near, E_etchhouselaw8_awake, E_slices_Contains_etchhouse_api_Pair_etchhouse_api_Pair]
noncomputable def B_etchhouselaw8_DrillNearGrows (n : Nat) (x0 : List ((Int × (Int × Unit)) × (Int × (Int × (Bool × Unit))))) (x1 : Int) (x2 : Int) : Option (((Bool × Unit) × (Unit × (Unit × (Unit × Unit))))) :=
  (bif (!(decide (((S_NearP x0 x1).2 = 0)))) then
    (bif decide (((S_NearP x0 x1).2 = 0)) then
      ((B_etchhouselaw8_awake).bind fun ((r1aa, ()), ()) =>
      some ((r1aa, ()), ((), ((), ((), ())))))
    else
      (bif decide ((((((S_NearP x0 x1).1).length : Nat) : Int) = 0)) then
        ((B_etchhouselaw8_awake).bind fun ((r2aa, ()), ()) =>
        some ((r2aa, ()), ((), ((), ((), ())))))
      else
        some ((false, ()), ((), ((), ((), ()))))))
  else
    (bif (!(decide (((S_NearP x0 x2).2 = 0)))) then
      (bif decide (((S_NearP x0 x1).2 = 0)) then
        ((B_etchhouselaw8_awake).bind fun ((r3aa, ()), ()) =>
        some ((r3aa, ()), ((), ((), ((), ())))))
      else
        (bif decide ((((((S_NearP x0 x1).1).length : Nat) : Int) = 0)) then
          ((B_etchhouselaw8_awake).bind fun ((r4aa, ()), ()) =>
          some ((r4aa, ()), ((), ((), ((), ())))))
        else
          some ((false, ()), ((), ((), ((), ()))))))
    else
      (bif decide ((x2 < x1)) then
        (bif decide (((S_NearP x0 x1).2 = 0)) then
          ((B_etchhouselaw8_awake).bind fun ((r5aa, ()), ()) =>
          some ((r5aa, ()), ((), ((), ((), ())))))
        else
          (bif decide ((((((S_NearP x0 x1).1).length : Nat) : Int) = 0)) then
            ((B_etchhouselaw8_awake).bind fun ((r6aa, ()), ()) =>
            some ((r6aa, ()), ((), ((), ((), ())))))
          else
            some ((false, ()), ((), ((), ((), ()))))))
      else
        loopN (fun rec7 => fun
        | ((v7aa, ()), ()) =>
          (bif decide ((v7aa < ((((S_NearP x0 x1).1).length : Nat) : Int))) then
            (bif inB v7aa (((S_NearP x0 x1).1).length) then
              (bif (!(S_has ((S_NearP x0 x2).1) (((S_NearP x0 x1).1).getD v7aa.toNat (0, (0, (0, ())))))) then
                some ((false, ()), ((), ((), ((), ()))))
              else
                (bif decide ((x1 ≤ (((((S_NearP x0 x1).1).getD v7aa.toNat (0, (0, (0, ())))).2).2).1)) then
                  some ((false, ()), ((), ((), ((), ()))))
                else
                  (bif decide ((((((S_NearP x0 x1).1).getD v7aa.toNat (0, (0, (0, ())))).2).1 ≤ (((S_NearP x0 x1).1).getD v7aa.toNat (0, (0, (0, ())))).1)) then
                    some ((false, ()), ((), ((), ((), ()))))
                  else
                    rec7 ((wrapI .i64 (v7aa + 1), ()), ()))))
            else
              none)
          else
            loopN (fun rec8 => fun
            | ((v8aa, ()), ()) =>
              (bif decide ((v8aa < ((((S_NearP x0 x2).1).length : Nat) : Int))) then
                (bif inB v8aa (((S_NearP x0 x2).1).length) then
                  (bif decide (((((((S_NearP x0 x2).1).getD v8aa.toNat (0, (0, (0, ())))).2).2).1 < x1)) then
                    (bif (!(S_has ((S_NearP x0 x1).1) (((S_NearP x0 x2).1).getD v8aa.toNat (0, (0, (0, ())))))) then
                      some ((false, ()), ((), ((), ((), ()))))
                    else
                      rec8 ((wrapI .i64 (v8aa + 1), ()), ()))
                  else
                    rec8 ((wrapI .i64 (v8aa + 1), ()), ()))
                else
                  none)
              else
                ((B_etchhouselaw8_awake).bind fun ((r9aa, ()), ()) =>
                some ((r9aa, ()), ((), ((), ((), ())))))))
            n ((0, ()), ())))
        n ((0, ()), ()))))
theorem B_etchhouselaw8_DrillNearGrows_eq (n : Nat) (x0 : List ((Int × (Int × Unit)) × (Int × (Int × (Bool × Unit))))) (x1 : Int) (x2 : Int) : bodyE ty T_etchhouselaw8_DrillNearGrows n I_etchhouselaw8_DrillNearGrows (x0, (x1, (x2, ()))) = B_etchhouselaw8_DrillNearGrows n x0 x1 x2 := by kernel_rfl
theorem nearP_len {l : List Hole} {b : Int} : (S_NearP l b).1.length ≤ 4000000 := by
  unfold S_NearP
  cases hc : decide (S_chkH l = 0) with
  | false => exact Nat.zero_le _
  | true =>
    cases S_within b 0 10000 with
    | false => exact Nat.zero_le _
    | true =>
      obtain ⟨h2, _⟩ := chkH_len (of_decide_eq_true hc)
      obtain ⟨c, hc2⟩ : ∃ c : Nat, c = 2000 := ⟨_, rfl⟩
      have key := foldI_inv (f := fun a i o => foldI (nearF S_gap b i a) (l.drop (i + 1)) (i + 1) o) (fun i (s : List Pr) => s.length ≤ i * c) l 0 [] (Nat.zero_le _) (fun j a s _ hI => by
        have := foldI_inv (f := nearF S_gap b (0 + j) a) (fun k o => o.length ≤ s.length + (k - (0 + j + 1))) (l.drop (0 + j + 1)) (0 + j + 1) s (Nat.le_add_right _ _) (fun k a' s' _ hJ => by
          have := near_len (g := S_gap) (below := b) (i := 0 + j) (a := a) (b := a') (k := 0 + j + 1 + k) (o := s')
          omega)
        rw [List.length_drop] at this
        rw [Nat.succ_mul]
        omega)
      simp only [cond_true]
      have hi2 : (0 + l.length) * c ≤ 2000 * 2000 := Nat.mul_le_mul (by omega) (by omega)
      unfold S_near
      omega
theorem nearP_ok {l : List Hole} {b : Int} (h : (S_NearP l b).2 = 0) : (S_NearP l b).1 = S_near S_gap l b := by
  unfold S_NearP at h ⊢
  cases hc : decide (S_chkH l = 0) with
  | false => rw [hc] at h; rw [cond_false] at h; simp only [decide_eq_false_iff_not] at hc; exact absurd h hc
  | true =>
    rw [hc] at h
    cases hw : S_within b 0 10000 with
    | false => rw [hw] at h; cases h
    | true => rfl
theorem nearP_no {l : List Hole} {b : Int} (h : (S_NearP l b).2 ≠ 0) : (S_NearP l b).1 = [] := by
  unfold S_NearP at h ⊢
  cases hc : decide (S_chkH l = 0) with
  | false => rfl
  | true =>
    cases hw : S_within b 0 10000 with
    | false => rfl
    | true => rw [hc, hw] at h; exact absurd rfl h
theorem has_in {l : List Pr} {p : Pr} (h : p ∈ l) : S_has l p = true := decide_eq_true h
theorem ok_etchhouselaw8_DrillNearGrows (x0 : List Hole) (x1 x2 : Int) (hok : OkA I_etchhouselaw8_DrillNearGrows.args (x0, x1, x2, ())) : ∃ n, bodyE ty T_etchhouselaw8_DrillNearGrows n I_etchhouselaw8_DrillNearGrows (x0, x1, x2, ()) = some ((true, ()), ((), (), (), ())) := ⟨(S_NearP x0 x1).1.length + (S_NearP x0 x2).1.length + 1, by
  rw [B_etchhouselaw8_DrillNearGrows_eq]
  unfold B_etchhouselaw8_DrillNearGrows
  have hA : B_etchhouselaw8_awake = some ((true, ()), ()) := rfl
  rw [hA]
  simp only [Option.bind_some]
  have hE : ∀ b, ((S_NearP x0 b).2 = 0) → (bif decide ((S_NearP x0 b).2 = 0) then some ((true, ()), ((), (), (), ())) else (bif decide ((((S_NearP x0 b).1.length : Nat) : Int) = 0) then some ((true, ()), ((), (), (), ())) else some ((false, ()), ((), (), (), ())))) = some ((true, ()), ((), (), (), ())) := fun b h => by rw [decide_eq_true h]; rfl
  have hN : ∀ b, ((S_NearP x0 b).2 ≠ 0) → (bif decide ((S_NearP x0 b).2 = 0) then some ((true, ()), ((), (), (), ())) else (bif decide ((((S_NearP x0 b).1.length : Nat) : Int) = 0) then some ((true, ()), ((), (), (), ())) else some ((false, ()), ((), (), (), ())))) = some ((true, ()), ((), (), (), ())) := fun b h => by rw [nearP_no h, decide_eq_false h]; rfl
  by_cases h1 : (S_NearP x0 x1).2 = 0
  · rw [decide_eq_true h1]
    by_cases h2 : (S_NearP x0 x2).2 = 0
    · rw [decide_eq_true h2]
      by_cases h3 : x2 < x1
      · rw [decide_eq_true h3]; rfl
      · rw [decide_eq_false h3]
        simp only [Bool.not_true, cond_false]
        have l1 := nearP_len (l := x0) (b := x1)
        have l2 := nearP_len (l := x0) (b := x2)
        have m1 := nearP_ok h1
        have m2 := nearP_ok h2
        have in1 : ∀ p, p ∈ (S_NearP x0 x1).1 → S_has (S_NearP x0 x2).1 p = true ∧ p.2.2.1 < x1 ∧ p.1 < p.2.1 := fun p hp => by
          rw [m1] at hp
          obtain ⟨i, k, a, b, e1, e2, e3, e4, e5, e6⟩ := near_in.1 hp
          refine ⟨has_in (by rw [m2]; exact near_in.2 ⟨i, k, a, b, e1, e2, e3, by omega, e5, e6⟩), ?_, ?_⟩
          · rw [e6]; exact e4
          · rw [e6]; show (i : Int) < (k : Int); omega
        have in2 : ∀ p, p ∈ (S_NearP x0 x2).1 → p.2.2.1 < x1 → S_has (S_NearP x0 x1).1 p = true := fun p hp hq => by
          rw [m2] at hp
          obtain ⟨i, k, a, b, e1, e2, e3, e4, e5, e6⟩ := near_in.1 hp
          have hq' : S_gap a b < x1 := by rw [e6] at hq; exact hq
          exact has_in (by rw [m1]; exact near_in.2 ⟨i, k, a, b, e1, e2, e3, hq', e5, e6⟩)
        have hm : (4000000 : Nat) ≤ maxLen := by decide
        refine (loop_fold (l := (S_NearP x0 x1).1) (fun i (_ : Unit) => ((i, ()), ())) (fun _ _ => True) (fun _ _ _ => ()) (fun _ => some ((true, ()), ((), (), (), ()))) (fun i h s _ => ⟨trivial, fun rec => ?_⟩) (fun s _ rec => ?_) (by omega) (s := ()) trivial)
        · obtain ⟨c1, c2, c3⟩ := in1 _ (List.getElem_mem h)
          simp only [lt_nat h, inB_nat h, getD_lt h, succ64 h (Nat.le_trans l1 hm), cond_true, c1, Bool.not_true, cond_false]
          rw [decide_eq_false (Int.not_le.2 c2), decide_eq_false (Int.not_le.2 c3)]
          rfl
        · simp only [lt_self, cond_false]
          refine (loop_fold (l := (S_NearP x0 x2).1) (fun i (_ : Unit) => ((i, ()), ())) (fun _ _ => True) (fun _ _ _ => ()) (fun _ => some ((true, ()), ((), (), (), ()))) (fun i h s _ => ⟨trivial, fun rec => ?_⟩) (fun s _ rec => by simp only [lt_self, cond_false]) (by omega) (s := ()) trivial)
          simp only [lt_nat h, inB_nat h, getD_lt h, succ64 h (Nat.le_trans l2 hm), cond_true]
          by_cases c1 : (S_NearP x0 x2).1[i].2.2.1 < x1
          · rw [decide_eq_true c1, in2 _ (List.getElem_mem h) c1]; rfl
          · rw [decide_eq_false c1]; rfl
    · rw [decide_eq_false h2]; rfl
  · rw [decide_eq_false h1]
    have := hN x1 h1
    rw [decide_eq_false h1] at this
    exact this⟩
noncomputable def E_etchhouselaw8_DrillNearGrows : Entry Try.prog := Entry.of tok T_etchhouselaw8_DrillNearGrows I_etchhouselaw8_DrillNearGrows it_etchhouselaw8_DrillNearGrows (fun (x0, x1, x2, ()) => some ((true, ()), ((), (), (), ()))) (fun (x0, x1, x2, ()) r hok h => by cases h; exact ok_etchhouselaw8_DrillNearGrows x0 x1 x2 hok)

end Go.Proofs.Ytlibmodfpkhdpaa
namespace Go.Proofs.Ytlibmodfpkhdpaa
open Go Go.VM
namespace LDrillNearGrows
theorem law (x0 : List Hole) (x1 x2 : Int) : (some ((true, ()), ((), ((), ((), ())))) : Option ((Bool × Unit) × Unit × Unit × Unit × Unit)) = some ((true, ()), ((), ((), ((), ())))) := rfl

end LDrillNearGrows
end Go.Proofs.Ytlibmodfpkhdpaa
