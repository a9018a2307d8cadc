/- What the functions that DrillNearMatchesSpec reaches compute, part 1; and that the law answers true, for all arguments that a row reads. -/
import Derived.Test.YtlibmodfpkhdpaaProg
import Derived.Test.YtlibmodfpkhdpaaVmDrillNearMatchesSpec4
namespace Go.Proofs.Ytlibmodfpkhdpaa
open Go Go.VM
abbrev i : Ty := .int .i64
def tab : List (Nat × Ty) := [(34, (.sl (.pair (.pair i (.pair i .unit)) (.pair i (.pair i (.pair .bool .unit)))))), (55, (.pair (.pair i (.pair i .unit)) (.pair i (.pair i (.pair .bool .unit))))), (24, (.pair i (.pair i .unit))), (3, i), (4, .bool), (28, (.sl i)), (25, i), (58, (.mp (.pair i (.pair i .unit)) .bool)), (35, (.sl (.pair i (.pair i (.pair i .unit))))), (39, (.pair i (.pair i (.pair i .unit)))), (22, (.sl (.pair i (.pair i .unit))))]
def ty : Types := mkTypes tab [24, 39]
theorem tok : TyOK Try.prog ty := tyok_of_check (by kernel_rfl)
end Go.Proofs.Ytlibmodfpkhdpaa
namespace Go.Proofs.Ytlibmodfpkhdpaa
open Go Go.VM
/-! ### etchhouse.shape.within -/
noncomputable def I_shape_within : Inst := ⟨55, Try.f55, .two (.reg []) (.two (.reg []) (.leaf)), (.cons (.pv i) (.cons (.pv i) (.cons (.pv i) .nil))), (.cons .flat .bool .nil)⟩
theorem it_shape_within : InTab Try.prog I_shape_within := ⟨Try.func55, by kernel_rfl, rfl⟩
noncomputable def T_shape_within : Nat → Entry Try.prog := nth (Entry.no Try.f0) []
noncomputable def B_shape_within (x0 : Int) (x1 : Int) (x2 : Int) : Option (((Bool × Unit) × (Unit × (Unit × (Unit × Unit))))) :=
  (bif decide ((x1 ≤ x0)) then
    some ((decide ((x0 ≤ x2)), ()), ((), ((), ((), ()))))
  else
    some ((false, ()), ((), ((), ((), ())))))
theorem B_shape_within_eq (n : Nat) (x0 : Int) (x1 : Int) (x2 : Int) : bodyE ty T_shape_within n I_shape_within (x0, (x1, (x2, ()))) = B_shape_within x0 x1 x2 := by kernel_rfl
theorem ok_shape_within (x0 x1 x2 : Int) (hok : OkA I_shape_within.args (x0, x1, x2, ())) : ∃ n, bodyE ty T_shape_within n I_shape_within (x0, x1, x2, ()) = some ((S_within x0 x1 x2, ()), ((), (), (), ())) := ⟨0, by
  rw [B_shape_within_eq]; unfold B_shape_within S_within; cases decide (x1 ≤ x0) <;> rfl⟩
noncomputable def E_shape_within : Entry Try.prog := Entry.of tok T_shape_within I_shape_within it_shape_within (fun (x0, x1, x2, ()) => some ((S_within x0 x1 x2, ()), ((), (), (), ()))) (fun (x0, x1, x2, ()) r hok h => by cases h; exact ok_shape_within x0 x1 x2 hok)

end Go.Proofs.Ytlibmodfpkhdpaa
namespace Go.Proofs.Ytlibmodfpkhdpaa
open Go Go.VM
/-! ### etchhouse.shape.IsAt -/
noncomputable def I_shape_IsAt : Inst := ⟨53, Try.f53, .two (.reg []) (.two (.reg [(1, 0)]) (.leaf)), (.cons (.pv i) .nil), (.cons .flat .bool .nil)⟩
theorem it_shape_IsAt : InTab Try.prog I_shape_IsAt := ⟨Try.func53, by kernel_rfl, rfl⟩
noncomputable def T_shape_IsAt : Nat → Entry Try.prog := nth (Entry.no Try.f0) [E_shape_within]
noncomputable def B_shape_IsAt (x0 : Int) : Option (((Bool × Unit) × (Unit × Unit))) :=
  some ((S_within x0 (-1000000) 1000000, ()), ((), ()))
theorem B_shape_IsAt_eq (n : Nat) (x0 : Int) : bodyE ty T_shape_IsAt n I_shape_IsAt (x0, ()) = B_shape_IsAt x0 := by kernel_rfl
theorem ok_shape_IsAt (x0 : Int) (hok : OkA I_shape_IsAt.args (x0, ())) : ∃ n, bodyE ty T_shape_IsAt n I_shape_IsAt (x0, ()) = some ((S_within x0 (-1000000) 1000000, ()), ((), ())) := ⟨0, by rw [B_shape_IsAt_eq]; rfl⟩
noncomputable def E_shape_IsAt : Entry Try.prog := Entry.of tok T_shape_IsAt I_shape_IsAt it_shape_IsAt (fun (x0, ()) => some ((S_within x0 (-1000000) 1000000, ()), ((), ()))) (fun (x0, ()) r hok h => by cases h; exact ok_shape_IsAt x0 hok)

end Go.Proofs.Ytlibmodfpkhdpaa
namespace Go.Proofs.Ytlibmodfpkhdpaa
open Go Go.VM
/-! ### etchhouse.shape.IsPoint -/
noncomputable def I_shape_IsPoint : Inst := ⟨45, Try.f45, .two (.reg []) (.two (.reg [(2, 0), (6, 0)]) (.leaf)), (.cons (.pv (.pair i (.pair i .unit))) .nil), (.cons .flat .bool .nil)⟩
theorem it_shape_IsPoint : InTab Try.prog I_shape_IsPoint := ⟨Try.func45, by kernel_rfl, rfl⟩
noncomputable def T_shape_IsPoint : Nat → Entry Try.prog := nth (Entry.no Try.f0) [E_shape_IsAt]
noncomputable def B_shape_IsPoint (x0 : (Int × (Int × Unit))) : Option (((Bool × Unit) × (Unit × Unit))) :=
  (bif S_within x0.1 (-1000000) 1000000 then
    some ((S_within x0.2.1 (-1000000) 1000000, ()), ((), ()))
  else
    some ((false, ()), ((), ())))
theorem B_shape_IsPoint_eq (n : Nat) (x0 : (Int × (Int × Unit))) : bodyE ty T_shape_IsPoint n I_shape_IsPoint (x0, ()) = B_shape_IsPoint x0 := by kernel_rfl
def S_isPt (p : Int × Int × Unit) : Bool := S_within p.1 (-1000000) 1000000 && S_within p.2.1 (-1000000) 1000000
theorem ok_shape_IsPoint (x0 : Int × Int × Unit) (hok : OkA I_shape_IsPoint.args (x0, ())) : ∃ n, bodyE ty T_shape_IsPoint n I_shape_IsPoint (x0, ()) = some ((S_isPt x0, ()), ((), ())) := ⟨0, by
  rw [B_shape_IsPoint_eq]; unfold B_shape_IsPoint S_isPt; cases S_within x0.1 (-1000000) 1000000 <;> rfl⟩
noncomputable def E_shape_IsPoint : Entry Try.prog := Entry.of tok T_shape_IsPoint I_shape_IsPoint it_shape_IsPoint (fun (x0, ()) => some ((S_isPt x0, ()), ((), ()))) (fun (x0, ()) r hok h => by cases h; exact ok_shape_IsPoint x0 hok)

end Go.Proofs.Ytlibmodfpkhdpaa
namespace Go.Proofs.Ytlibmodfpkhdpaa
open Go Go.VM
/-! ### etchhouse.drill.within -/
noncomputable def I_drill_within : Inst := ⟨33, Try.f33, .two (.reg []) (.two (.reg []) (.leaf)), (.cons (.pv i) (.cons (.pv i) (.cons (.pv i) .nil))), (.cons .flat .bool .nil)⟩
theorem it_drill_within : InTab Try.prog I_drill_within := ⟨Try.func33, by kernel_rfl, rfl⟩
noncomputable def T_drill_within : Nat → Entry Try.prog := nth (Entry.no Try.f0) []
noncomputable def B_drill_within (x0 : Int) (x1 : Int) (x2 : Int) : Option (((Bool × Unit) × (Unit × (Unit × (Unit × Unit))))) :=
  (bif decide ((x1 ≤ x0)) then
    some ((decide ((x0 ≤ x2)), ()), ((), ((), ((), ()))))
  else
    some ((false, ()), ((), ((), ((), ())))))
theorem B_drill_within_eq (n : Nat) (x0 : Int) (x1 : Int) (x2 : Int) : bodyE ty T_drill_within n I_drill_within (x0, (x1, (x2, ()))) = B_drill_within x0 x1 x2 := by kernel_rfl
theorem ok_drill_within (x0 x1 x2 : Int) (hok : OkA I_drill_within.args (x0, x1, x2, ())) : ∃ n, bodyE ty T_drill_within n I_drill_within (x0, x1, x2, ()) = some ((S_within x0 x1 x2, ()), ((), (), (), ())) := ⟨0, by
  rw [B_drill_within_eq]; unfold B_drill_within S_within; cases decide (x1 ≤ x0) <;> rfl⟩
noncomputable def E_drill_within : Entry Try.prog := Entry.of tok T_drill_within I_drill_within it_drill_within (fun (x0, x1, x2, ()) => some ((S_within x0 x1 x2, ()), ((), (), (), ()))) (fun (x0, x1, x2, ()) r hok h => by cases h; exact ok_drill_within x0 x1 x2 hok)

end Go.Proofs.Ytlibmodfpkhdpaa
namespace Go.Proofs.Ytlibmodfpkhdpaa
open Go Go.VM
/-! ### etchhouse.drill.CheckHoles -/
noncomputable def I_drill_CheckHoles : Inst := ⟨32, Try.f32, .two (.reg []) (.two (.two (.reg []) (.two (.two (.reg []) (.leaf)) (.leaf))) (.two (.two (.reg []) (.one (.loop ⟨[(10, .pv i)], [], [8, 9], []⟩ (.two (.reg []) (.two (.two (.leaf) (.leaf)) (.two (.one (.two (.reg []) (.two (.reg [(2, 0), (7, 1), (13, 1)]) (.two (.two (.reg []) (.leaf)) (.leaf))))) (.reg []))))))) (.two (.reg []) (.leaf)))), (.cons (.pv (.sl (.pair (.pair i (.pair i .unit)) (.pair i (.pair i (.pair .bool .unit)))))) .nil), (.cons .flat i .nil)⟩
theorem it_drill_CheckHoles : InTab Try.prog I_drill_CheckHoles := ⟨Try.func32, by kernel_rfl, rfl⟩
noncomputable def T_drill_CheckHoles : Nat → Entry Try.prog := nth (Entry.no Try.f0) [E_shape_IsPoint, E_drill_within]
noncomputable def B_drill_CheckHoles (n : Nat) (x0 : List ((Int × (Int × Unit)) × (Int × (Int × (Bool × Unit))))) : Option (((Int × Unit) × (Unit × Unit))) :=
  (bif decide ((2000 < ((x0.length : Nat) : Int))) then
    some ((2, ()), ((), ()))
  else
    loopN (fun rec1 => fun
    | ((v1aa, ()), ()) =>
      (bif decide ((v1aa < ((x0.length : Nat) : Int))) then
        (bif inB v1aa x0.length then
          (bif (!(S_isPt ((x0.getD v1aa.toNat ((0, (0, ())), (0, (0, (false, ()))))).1))) then
            some ((1, ()), ((), ()))
          else
            (bif (!(S_within (((x0.getD v1aa.toNat ((0, (0, ())), (0, (0, (false, ()))))).2).1) 1 10000)) then
              some ((1, ()), ((), ()))
            else
              (bif (!(S_within ((((x0.getD v1aa.toNat ((0, (0, ())), (0, (0, (false, ()))))).2).2).1) 1 100000)) then
                some ((1, ()), ((), ()))
              else
                rec1 ((wrapI .i64 (v1aa + 1), ()), ()))))
        else
          none)
      else
        some ((0, ()), ((), ()))))
    n ((0, ()), ()))
theorem B_drill_CheckHoles_eq (n : Nat) (x0 : List ((Int × (Int × Unit)) × (Int × (Int × (Bool × Unit))))) : bodyE ty T_drill_CheckHoles n I_drill_CheckHoles (x0, ()) = B_drill_CheckHoles n x0 := by kernel_rfl
def S_hole (h : Hole) : Bool := S_isPt h.1 && (S_within h.2.1 1 10000 && S_within h.2.2.1 1 100000)
def S_chkH (l : List Hole) : Int := bif decide ((2000 : Int) < (l.length : Int)) then 2 else bif l.all S_hole then 0 else 1
theorem ok_drill_CheckHoles (x0 : List Hole) (hok : OkA I_drill_CheckHoles.args (x0, ())) : ∃ n, bodyE ty T_drill_CheckHoles n I_drill_CheckHoles (x0, ()) = some ((S_chkH x0, ()), ((), ())) := ⟨x0.length + 1, by
  obtain ⟨⟨hl, _⟩, _⟩ := hok
  rw [B_drill_CheckHoles_eq]
  unfold B_drill_CheckHoles S_chkH
  cases hd : decide ((2000 : Int) < (x0.length : Int)) with
  | true => rfl
  | false =>
    simp only [cond_false]
    refine (loop_list (l := x0) (fun i (_ : Unit) => ((i, ()), ())) (fun a i _ => bif S_hole a then .inl () else .inr (some ((1, ()), ((), ())))) (fun _ => some ((0, ()), ((), ()))) (fun i h s rec => ?_) (fun s rec => ?_) (Nat.lt_succ_self _) ()).trans ?_
    · simp only [lt_nat h, inB_nat h, getD_lt h, succ64 h hl, cond_true, S_hole]
      cases S_isPt x0[i].1 <;> cases S_within x0[i].2.1 1 10000 <;> cases S_within x0[i].2.2.1 1 100000 <;> rfl
    · simp only [lt_self, cond_false]
    · rw [goL_all]
      cases x0.all S_hole <;> rfl⟩
noncomputable def E_drill_CheckHoles : Entry Try.prog := Entry.of tok T_drill_CheckHoles I_drill_CheckHoles it_drill_CheckHoles (fun (x0, ()) => some ((S_chkH x0, ()), ((), ()))) (fun (x0, ()) r hok h => by cases h; exact ok_drill_CheckHoles x0 hok)

end Go.Proofs.Ytlibmodfpkhdpaa
namespace Go.Proofs.Ytlibmodfpkhdpaa
open Go Go.VM
/-! ### etchhouse.drill.Repeated -/
noncomputable def I_drill_Repeated : Inst := ⟨17, Try.f17, .two (.reg []) (.two (.two (.reg [(1, 0)]) (.two (.reg []) (.two (.two (.reg []) (.leaf)) (.leaf)))) (.two (.reg []) (.two (.reg []) (.two (.two (.reg []) (.one (.loop ⟨[(6, .st (.at (.rf 6 []))), (17, .pv i)], [(6, ⟨(.own .flat), (.sl i), false, false⟩), (5, ⟨.mapO, (.mp (.pair i (.pair i .unit)) .bool), false, false⟩)], [5, 15, 16], []⟩ (.two (.reg []) (.two (.two (.leaf) (.leaf)) (.two (.one (.two (.reg []) (.two (.two (.reg []) (.two (.reg []) (.leaf))) (.reg [])))) (.reg []))))))) (.two (.reg []) (.leaf)))))), (.cons (.pv (.sl (.pair (.pair i (.pair i .unit)) (.pair i (.pair i (.pair .bool .unit)))))) .nil), (.cons (.own .flat) (.sl i) (.cons .flat i .nil))⟩
theorem it_drill_Repeated : InTab Try.prog I_drill_Repeated := ⟨Try.func17, by kernel_rfl, rfl⟩
noncomputable def T_drill_Repeated : Nat → Entry Try.prog := nth (Entry.no Try.f0) [E_drill_CheckHoles]
noncomputable def B_drill_Repeated (n : Nat) (x0 : List ((Int × (Int × Unit)) × (Int × (Int × (Bool × Unit))))) : Option (((List Int × (Int × Unit)) × (Unit × Unit))) :=
  (bif (!(decide ((S_chkH x0 = 0)))) then
    some (([], (S_chkH x0, ())), ((), ()))
  else
    loopN (fun rec1 => fun
    | ((v1aa, ()), (v1ba, (v1bba, ()))) =>
      (bif decide ((v1aa < ((x0.length : Nat) : Int))) then
        (bif inB v1aa x0.length then
          (bif lookM (.pair (.int .i64) (.pair (.int .i64) .unit)) .bool v1bba ((x0.getD v1aa.toNat ((0, (0, ())), (0, (0, (false, ()))))).1) then
            (bif decide (((v1ba.length + 1) ≤ 4294967296)) then
              rec1 ((wrapI .i64 (v1aa + 1), ()), ((v1ba ++ [v1aa]), (setM (.pair (.int .i64) (.pair (.int .i64) .unit)) .bool v1bba ((x0.getD v1aa.toNat ((0, (0, ())), (0, (0, (false, ()))))).1) true, ())))
            else
              none)
          else
            rec1 ((wrapI .i64 (v1aa + 1), ()), (v1ba, (setM (.pair (.int .i64) (.pair (.int .i64) .unit)) .bool v1bba ((x0.getD v1aa.toNat ((0, (0, ())), (0, (0, (false, ()))))).1) true, ()))))
        else
          none)
      else
        some ((v1ba, (0, ())), ((), ()))))
    n ((0, ()), ([], ([], ()))))
theorem B_drill_Repeated_eq (n : Nat) (x0 : List ((Int × (Int × Unit)) × (Int × (Int × (Bool × Unit))))) : bodyE ty T_drill_Repeated n I_drill_Repeated (x0, ()) = B_drill_Repeated n x0 := by kernel_rfl
def repF (l : List Hole) (a : Hole) (i : Nat) (o : List Int) : List Int := bif (l.take i).any (fun b => decide (a.1 = b.1)) then o ++ [(i : Int)] else o
def S_rep (l : List Hole) : List Int := foldI (repF l) l 0 []
def S_RepP (l : List Hole) : List Int × Int := bif decide (S_chkH l = 0) then (S_rep l, 0) else ([], S_chkH l)
theorem chkH_max {l : List Hole} (h : S_chkH l = 0) : l.length ≤ 2000 := by
  unfold S_chkH at h
  cases hd : decide ((2000 : Int) < (l.length : Int)) with
  | true => rw [hd] at h; cases h
  | false => simp only [decide_eq_false_iff_not] at hd; omega
abbrev ptM := List (Pt × Bool)
theorem ok_drill_Repeated (x0 : List Hole) (hok : OkA I_drill_Repeated.args (x0, ())) : ∃ n, bodyE ty T_drill_Repeated n I_drill_Repeated (x0, ()) = some (((S_RepP x0).1, (S_RepP x0).2, ()), ((), ())) := ⟨x0.length + 1, by
  obtain ⟨⟨hl, _⟩, _⟩ := hok
  rw [B_drill_Repeated_eq]
  unfold B_drill_Repeated S_RepP
  cases hc : decide (S_chkH x0 = 0) with
  | false => rfl
  | true =>
    simp only [Bool.not_true, cond_false, cond_true]
    have h2 := chkH_max (of_decide_eq_true hc)
    refine (loop_fold (l := x0) (fun i (s : List Int × ptM) => ((i, ()), (s.1, (s.2, ())))) (fun i s => s.1.length ≤ i ∧ ∀ p : Pt, lookM (.pair (.int .i64) (.pair (.int .i64) .unit)) .bool s.2 p = (x0.take i).any (fun b => decide (p = b.1)))
      (fun a i s => (repF x0 a i s.1, setM (.pair (.int .i64) (.pair (.int .i64) .unit)) .bool s.2 a.1 true)) (fun s => some ((s.1, 0, ()), ((), ()))) (fun i h s hI => ⟨⟨?_, fun p => ?_⟩, fun rec => ?_⟩) (fun s _ rec => by simp only [lt_self, cond_false]) (Nat.lt_succ_self _) (s := ([], [])) ⟨Nat.le_refl _, fun p => by simp [lookM, getM, Ty.zero]⟩).trans ?_
    · simp only [repF]
      cases (x0.take i).any (fun b => decide (x0[i].1 = b.1)) with
      | true => simp only [cond_true, List.length_append, List.length_cons, List.length_nil]; omega
      | false => simp only [cond_false]; omega
    · simp only
      rw [lookM_setM rfl, take_any h, hI.2 p, eqPt]
      cases decide (p = x0[i].1) <;> cases (x0.take i).any (fun b => decide (p = b.1)) <;> rfl
    · simp only [lt_nat h, inB_nat h, getD_lt h, succ64 h hl, cond_true]
      change (bif lookM (.pair (.int .i64) (.pair (.int .i64) .unit)) .bool s.2 x0[i].1 then _ else _) = _
      rw [hI.2]
      simp only [repF]
      have c3 : decide (s.1.length + 1 ≤ 4294967296) = true := decide_eq_true (by omega)
      cases (x0.take i).any (fun b => decide (x0[i].1 = b.1)) with
      | true => simp only [cond_true, c3]
      | false => simp only [cond_false]
    · rw [foldI_fst (g := repF x0) (fun a i s => rfl)]; rfl⟩
noncomputable def E_drill_Repeated : Entry Try.prog := Entry.of tok T_drill_Repeated I_drill_Repeated it_drill_Repeated (fun (x0, ()) => some (((S_RepP x0).1, (S_RepP x0).2, ()), ((), ()))) (fun (x0, ()) r hok h => by cases h; exact ok_drill_Repeated x0 hok)

end Go.Proofs.Ytlibmodfpkhdpaa
namespace Go.Proofs.Ytlibmodfpkhdpaa
open Go Go.VM
/-! ### etchhouse.etchhouseref8.within -/
noncomputable def I_etchhouseref8_within : Inst := ⟨37, Try.f37, .two (.reg []) (.two (.reg []) (.leaf)), (.cons (.pv i) (.cons (.pv i) (.cons (.pv i) .nil))), (.cons .flat .bool .nil)⟩
theorem it_etchhouseref8_within : InTab Try.prog I_etchhouseref8_within := ⟨Try.func37, by kernel_rfl, rfl⟩
noncomputable def T_etchhouseref8_within : Nat → Entry Try.prog := nth (Entry.no Try.f0) []
noncomputable def B_etchhouseref8_within (x0 : Int) (x1 : Int) (x2 : Int) : Option (((Bool × Unit) × (Unit × (Unit × (Unit × Unit))))) :=
  (bif decide ((x1 ≤ x0)) then
    some ((decide ((x0 ≤ x2)), ()), ((), ((), ((), ()))))
  else
    some ((false, ()), ((), ((), ((), ())))))
theorem B_etchhouseref8_within_eq (n : Nat) (x0 : Int) (x1 : Int) (x2 : Int) : bodyE ty T_etchhouseref8_within n I_etchhouseref8_within (x0, (x1, (x2, ()))) = B_etchhouseref8_within x0 x1 x2 := by kernel_rfl
theorem ok_etchhouseref8_within (x0 x1 x2 : Int) (hok : OkA I_etchhouseref8_within.args (x0, x1, x2, ())) : ∃ n, bodyE ty T_etchhouseref8_within n I_etchhouseref8_within (x0, x1, x2, ()) = some ((S_within x0 x1 x2, ()), ((), (), (), ())) := ⟨0, by
  rw [B_etchhouseref8_within_eq]; unfold B_etchhouseref8_within S_within; cases decide (x1 ≤ x0) <;> rfl⟩
noncomputable def E_etchhouseref8_within : Entry Try.prog := Entry.of tok T_etchhouseref8_within I_etchhouseref8_within it_etchhouseref8_within (fun (x0, x1, x2, ()) => some ((S_within x0 x1 x2, ()), ((), (), (), ()))) (fun (x0, x1, x2, ()) r hok h => by cases h; exact ok_etchhouseref8_within x0 x1 x2 hok)

end Go.Proofs.Ytlibmodfpkhdpaa
namespace Go.Proofs.Ytlibmodfpkhdpaa
open Go Go.VM
/-! ### etchhouse.etchhouseref8.isPoint -/
noncomputable def I_etchhouseref8_isPoint : Inst := ⟨48, Try.f48, .two (.reg []) (.two (.reg [(2, 0), (6, 0)]) (.leaf)), (.cons (.pv (.pair i (.pair i .unit))) .nil), (.cons .flat .bool .nil)⟩
theorem it_etchhouseref8_isPoint : InTab Try.prog I_etchhouseref8_isPoint := ⟨Try.func48, by kernel_rfl, rfl⟩
noncomputable def T_etchhouseref8_isPoint : Nat → Entry Try.prog := nth (Entry.no Try.f0) [E_etchhouseref8_within]
noncomputable def B_etchhouseref8_isPoint (x0 : (Int × (Int × Unit))) : Option (((Bool × Unit) × (Unit × Unit))) :=
  (bif S_within x0.1 (-1000000) 1000000 then
    some ((S_within x0.2.1 (-1000000) 1000000, ()), ((), ()))
  else
    some ((false, ()), ((), ())))
theorem B_etchhouseref8_isPoint_eq (n : Nat) (x0 : (Int × (Int × Unit))) : bodyE ty T_etchhouseref8_isPoint n I_etchhouseref8_isPoint (x0, ()) = B_etchhouseref8_isPoint x0 := by kernel_rfl
def S_isPtR (p : Int × Int × Unit) : Bool := S_within p.1 (-1000000) 1000000 && S_within p.2.1 (-1000000) 1000000
theorem ok_etchhouseref8_isPoint (x0 : Int × Int × Unit) (hok : OkA I_etchhouseref8_isPoint.args (x0, ())) : ∃ n, bodyE ty T_etchhouseref8_isPoint n I_etchhouseref8_isPoint (x0, ()) = some ((S_isPtR x0, ()), ((), ())) := ⟨0, by
  rw [B_etchhouseref8_isPoint_eq]; unfold B_etchhouseref8_isPoint S_isPtR; cases S_within x0.1 (-1000000) 1000000 <;> rfl⟩
noncomputable def E_etchhouseref8_isPoint : Entry Try.prog := Entry.of tok T_etchhouseref8_isPoint I_etchhouseref8_isPoint it_etchhouseref8_isPoint (fun (x0, ()) => some ((S_isPtR x0, ()), ((), ()))) (fun (x0, ()) r hok h => by cases h; exact ok_etchhouseref8_isPoint x0 hok)

end Go.Proofs.Ytlibmodfpkhdpaa
namespace Go.Proofs.Ytlibmodfpkhdpaa
open Go Go.VM
/-! ### etchhouse.etchhouseref8.CheckHoles -/
noncomputable def I_etchhouseref8_CheckHoles : Inst := ⟨36, Try.f36, .two (.reg []) (.two (.two (.reg []) (.two (.two (.reg []) (.leaf)) (.leaf))) (.two (.two (.reg []) (.one (.loop ⟨[(10, .pv i)], [], [8, 9], []⟩ (.two (.reg []) (.two (.two (.leaf) (.leaf)) (.two (.one (.two (.reg []) (.two (.reg [(2, 0), (7, 1), (13, 1)]) (.two (.two (.reg []) (.leaf)) (.leaf))))) (.reg []))))))) (.two (.reg []) (.leaf)))), (.cons (.pv (.sl (.pair (.pair i (.pair i .unit)) (.pair i (.pair i (.pair .bool .unit)))))) .nil), (.cons .flat i .nil)⟩
theorem it_etchhouseref8_CheckHoles : InTab Try.prog I_etchhouseref8_CheckHoles := ⟨Try.func36, by kernel_rfl, rfl⟩
noncomputable def T_etchhouseref8_CheckHoles : Nat → Entry Try.prog := nth (Entry.no Try.f0) [E_etchhouseref8_isPoint, E_etchhouseref8_within]
noncomputable def B_etchhouseref8_CheckHoles (n : Nat) (x0 : List ((Int × (Int × Unit)) × (Int × (Int × (Bool × Unit))))) : Option (((Int × Unit) × (Unit × Unit))) :=
  (bif decide ((2000 < ((x0.length : Nat) : Int))) then
    some ((2, ()), ((), ()))
  else
    loopN (fun rec1 => fun
    | ((v1aa, ()), ()) =>
      (bif decide ((v1aa < ((x0.length : Nat) : Int))) then
        (bif inB v1aa x0.length then
          (bif (!(S_isPtR ((x0.getD v1aa.toNat ((0, (0, ())), (0, (0, (false, ()))))).1))) then
            some ((1, ()), ((), ()))
          else
            (bif (!(S_within (((x0.getD v1aa.toNat ((0, (0, ())), (0, (0, (false, ()))))).2).1) 1 10000)) then
              some ((1, ()), ((), ()))
            else
              (bif (!(S_within ((((x0.getD v1aa.toNat ((0, (0, ())), (0, (0, (false, ()))))).2).2).1) 1 100000)) then
                some ((1, ()), ((), ()))
              else
                rec1 ((wrapI .i64 (v1aa + 1), ()), ()))))
        else
          none)
      else
        some ((0, ()), ((), ()))))
    n ((0, ()), ()))
theorem B_etchhouseref8_CheckHoles_eq (n : Nat) (x0 : List ((Int × (Int × Unit)) × (Int × (Int × (Bool × Unit))))) : bodyE ty T_etchhouseref8_CheckHoles n I_etchhouseref8_CheckHoles (x0, ()) = B_etchhouseref8_CheckHoles n x0 := by kernel_rfl
def S_holeR (h : Hole) : Bool := S_isPtR h.1 && (S_within h.2.1 1 10000 && S_within h.2.2.1 1 100000)
def S_chkHR (l : List Hole) : Int := bif decide ((2000 : Int) < (l.length : Int)) then 2 else bif l.all S_holeR then 0 else 1
theorem ok_etchhouseref8_CheckHoles (x0 : List Hole) (hok : OkA I_etchhouseref8_CheckHoles.args (x0, ())) : ∃ n, bodyE ty T_etchhouseref8_CheckHoles n I_etchhouseref8_CheckHoles (x0, ()) = some ((S_chkHR x0, ()), ((), ())) := ⟨x0.length + 1, by
  obtain ⟨⟨hl, _⟩, _⟩ := hok
  rw [B_etchhouseref8_CheckHoles_eq]
  unfold B_etchhouseref8_CheckHoles S_chkHR
  cases hd : decide ((2000 : Int) < (x0.length : Int)) with
  | true => rfl
  | false =>
    simp only [cond_false]
    refine (loop_list (l := x0) (fun i (_ : Unit) => ((i, ()), ())) (fun a i _ => bif S_holeR a then .inl () else .inr (some ((1, ()), ((), ())))) (fun _ => some ((0, ()), ((), ()))) (fun i h s rec => ?_) (fun s rec => ?_) (Nat.lt_succ_self _) ()).trans ?_
    · simp only [lt_nat h, inB_nat h, getD_lt h, succ64 h hl, cond_true, S_holeR]
      cases S_isPtR x0[i].1 <;> cases S_within x0[i].2.1 1 10000 <;> cases S_within x0[i].2.2.1 1 100000 <;> rfl
    · simp only [lt_self, cond_false]
    · rw [goL_all]
      cases x0.all S_holeR <;> rfl⟩
noncomputable def E_etchhouseref8_CheckHoles : Entry Try.prog := Entry.of tok T_etchhouseref8_CheckHoles I_etchhouseref8_CheckHoles it_etchhouseref8_CheckHoles (fun (x0, ()) => some ((S_chkHR x0, ()), ((), ()))) (fun (x0, ()) r hok h => by cases h; exact ok_etchhouseref8_CheckHoles x0 hok)

end Go.Proofs.Ytlibmodfpkhdpaa
namespace Go.Proofs.Ytlibmodfpkhdpaa
open Go Go.VM
/-! ### etchhouse.etchhouseref8.Repeated -/
noncomputable def I_etchhouseref8_Repeated : Inst := ⟨18, Try.f18, .two (.reg []) (.two (.two (.reg [(1, 0)]) (.two (.reg []) (.two (.two (.reg []) (.leaf)) (.leaf)))) (.two (.reg []) (.two (.two (.reg []) (.one (.loop ⟨[(5, .st (.at (.rf 5 []))), (17, .pv i)], [(5, ⟨(.own .flat), (.sl i), false, false⟩)], [0, 15, 16], []⟩ (.two (.reg []) (.two (.two (.leaf) (.leaf)) (.two (.one (.two (.reg []) (.two (.reg []) (.one (.loop ⟨[(5, .st (.at (.rf 5 []))), (26, .pv i)], [], [0, 6, 7, 15, 16, 17, 24, 25], [5, 7]⟩ (.two (.reg []) (.two (.two (.leaf) (.leaf)) (.two (.one (.two (.reg []) (.two (.reg []) (.two (.two (.reg []) (.leaf)) (.leaf))))) (.reg []))))))))) (.reg []))))))) (.two (.reg []) (.leaf))))), (.cons (.pv (.sl (.pair (.pair i (.pair i .unit)) (.pair i (.pair i (.pair .bool .unit)))))) .nil), (.cons (.own .flat) (.sl i) (.cons .flat i .nil))⟩
theorem it_etchhouseref8_Repeated : InTab Try.prog I_etchhouseref8_Repeated := ⟨Try.func18, by kernel_rfl, rfl⟩
noncomputable def T_etchhouseref8_Repeated : Nat → Entry Try.prog := nth (Entry.no Try.f0) [E_etchhouseref8_CheckHoles]
noncomputable def B_etchhouseref8_Repeated (n : Nat) (x0 : List ((Int × (Int × Unit)) × (Int × (Int × (Bool × Unit))))) : Option (((List Int × (Int × Unit)) × (Unit × Unit))) :=
  (bif (!(decide ((S_chkHR x0 = 0)))) then
    some (([], (S_chkHR x0, ())), ((), ()))
  else
    loopN (fun rec1 => fun
    | ((v1aa, ()), (v1ba, ())) =>
      (bif decide ((v1aa < ((x0.length : Nat) : Int))) then
        (bif inB v1aa x0.length then
          (bif (decide ((0 ≤ v1aa)) && decide ((v1aa ≤ ((x0.length : Nat) : Int)))) then
            loopN (fun rec2 => fun
            | ((v2aa, ()), ()) =>
              (bif decide ((v2aa < ((((x0.drop 0).take (v1aa.toNat - 0)).length : Nat) : Int))) then
                (bif inB v2aa (((x0.drop 0).take (v1aa.toNat - 0)).length) then
                  (bif Ty.eqv (.pair (.int .i64) (.pair (.int .i64) .unit)) ((((x0.drop 0).take (v1aa.toNat - 0)).getD v2aa.toNat ((0, (0, ())), (0, (0, (false, ()))))).1) ((x0.getD v1aa.toNat ((0, (0, ())), (0, (0, (false, ()))))).1) then
                    (bif decide (((v1ba.length + 1) ≤ 4294967296)) then
                      rec1 ((wrapI .i64 (v1aa + 1), ()), ((v1ba ++ [v1aa]), ()))
                    else
                      none)
                  else
                    rec2 ((wrapI .i64 (v2aa + 1), ()), ()))
                else
                  none)
              else
                rec1 ((wrapI .i64 (v1aa + 1), ()), (v1ba, ()))))
            n ((0, ()), ())
          else
            none)
        else
          none)
      else
        some ((v1ba, (0, ())), ((), ()))))
    n ((0, ()), ([], ())))
theorem B_etchhouseref8_Repeated_eq (n : Nat) (x0 : List ((Int × (Int × Unit)) × (Int × (Int × (Bool × Unit))))) : bodyE ty T_etchhouseref8_Repeated n I_etchhouseref8_Repeated (x0, ()) = B_etchhouseref8_Repeated n x0 := by kernel_rfl
def repFR (l : List Hole) (a : Hole) (i : Nat) (o : List Int) : List Int := bif (l.take i).any (fun b => decide (b.1 = a.1)) then o ++ [(i : Int)] else o
def S_repR (l : List Hole) : List Int := foldI (repFR l) l 0 []
def S_RepR (l : List Hole) : List Int × Int := bif decide (S_chkHR l = 0) then (S_repR l, 0) else ([], S_chkHR l)
theorem chkHR_max {l : List Hole} (h : S_chkHR l = 0) : l.length ≤ 2000 := by
  unfold S_chkHR at h
  cases hd : decide ((2000 : Int) < (l.length : Int)) with
  | true => rw [hd] at h; cases h
  | false => simp only [decide_eq_false_iff_not] at hd; omega
theorem ok_etchhouseref8_Repeated (x0 : List Hole) (hok : OkA I_etchhouseref8_Repeated.args (x0, ())) : ∃ n, bodyE ty T_etchhouseref8_Repeated n I_etchhouseref8_Repeated (x0, ()) = some (((S_RepR x0).1, (S_RepR x0).2, ()), ((), ())) := ⟨x0.length + 1, by
  obtain ⟨⟨hl, _⟩, _⟩ := hok
  rw [B_etchhouseref8_Repeated_eq]
  unfold B_etchhouseref8_Repeated S_RepR
  cases hc : decide (S_chkHR x0 = 0) with
  | false => rfl
  | true =>
    simp only [Bool.not_true, cond_false, cond_true]
    have h2 := chkHR_max (of_decide_eq_true hc)
    refine (loop_fold (l := x0) (fun i (s : List Int) => ((i, ()), (s, ()))) (fun i s => s.length ≤ i) (repFR x0) (fun s => some ((s, 0, ()), ((), ()))) (fun i h s hI => ⟨?_, fun rec => ?_⟩) (fun s _ rec => by simp only [lt_self, cond_false]) (Nat.lt_succ_self _) (s := []) (Nat.le_refl _))
    · simp only [repFR]
      cases (x0.take i).any (fun b => decide (b.1 = x0[i].1)) with
      | true => simp only [cond_true, List.length_append, List.length_cons, List.length_nil]; omega
      | false => simp only [cond_false]; omega
    · have c1 : (decide ((0 : Int) ≤ (i : Int)) && decide ((i : Int) ≤ ((x0.length : Nat) : Int))) = true := by simp; omega
      have c2 : (x0.drop 0).take ((i : Int).toNat - 0) = x0.take i := by simp
      have c3 : decide (s.length + 1 ≤ 4294967296) = true := decide_eq_true (by omega)
      simp only [lt_nat h, inB_nat h, getD_lt h, succ64 h hl, cond_true, c1, c2, c3]
      have hle : (x0.take i).length ≤ x0.length := by simp; omega
      refine (any_loop (fun b : Hole => Ty.eqv (.pair (.int .i64) (.pair (.int .i64) .unit)) b.1 x0[i].1) hole0 (Nat.le_trans hle hl) (Nat.lt_succ_of_le hle)).trans ?_
      simp only [repFR, eqPt]
      cases (x0.take i).any (fun b => decide (b.1 = x0[i].1)) <;> rfl⟩
noncomputable def E_etchhouseref8_Repeated : Entry Try.prog := Entry.of tok T_etchhouseref8_Repeated I_etchhouseref8_Repeated it_etchhouseref8_Repeated (fun (x0, ()) => some (((S_RepR x0).1, (S_RepR x0).2, ()), ((), ()))) (fun (x0, ()) r hok h => by cases h; exact ok_etchhouseref8_Repeated x0 hok)

end Go.Proofs.Ytlibmodfpkhdpaa
namespace Go.Proofs.Ytlibmodfpkhdpaa
open Go Go.VM
/-! ### slices.Equal[[]int,int] -/
noncomputable def I_slices_Equal_int_int : Inst := ⟨13, Try.f13, .two (.reg []) (.two (.two (.reg []) (.two (.two (.reg []) (.leaf)) (.leaf))) (.two (.two (.reg []) (.one (.loop ⟨[(13, .pv i)], [], [0, 1, 12], []⟩ (.two (.reg []) (.two (.two (.leaf) (.leaf)) (.two (.one (.two (.reg []) (.two (.draw [] [0, 1, 2, 3, 4, 5, 6, 7, 8] []) (.two (.two (.reg []) (.leaf)) (.leaf))))) (.reg []))))))) (.two (.reg []) (.leaf)))), (.cons (.pv (.sl i)) (.cons (.pv (.sl i)) .nil)), (.cons .flat .bool .nil)⟩
theorem it_slices_Equal_int_int : InTab Try.prog I_slices_Equal_int_int := ⟨Try.func13, by kernel_rfl, rfl⟩
noncomputable def T_slices_Equal_int_int : Nat → Entry Try.prog := nth (Entry.no Try.f0) []
noncomputable def B_slices_Equal_int_int (n : Nat) (x0 : List Int) (x1 : List Int) : Option (((Bool × Unit) × (Unit × (Unit × Unit)))) :=
  (bif (!(decide ((((x0.length : Nat) : Int) = ((x1.length : Nat) : Int))))) then
    some ((false, ()), ((), ((), ())))
  else
    loopN (fun rec1 => fun
    | ((v1aa, ()), ()) =>
      (bif decide ((v1aa < ((x0.length : Nat) : Int))) then
        (bif inB v1aa x0.length then
          (bif inB v1aa x1.length then
            (bif (!(decide ((x0.getD v1aa.toNat 0 = x1.getD v1aa.toNat 0)))) then
              some ((false, ()), ((), ((), ())))
            else
              rec1 ((wrapI .i64 (v1aa + 1), ()), ()))
          else
            none)
        else
          none)
      else
        some ((true, ()), ((), ((), ())))))
    n ((0, ()), ()))
theorem B_slices_Equal_int_int_eq (n : Nat) (x0 : List Int) (x1 : List Int) : bodyE ty T_slices_Equal_int_int n I_slices_Equal_int_int (x0, (x1, ())) = B_slices_Equal_int_int n x0 x1 := by kernel_rfl
theorem eqL : ∀ (d i : Nat) (a b : List Int), i + d = a.length → a.length = b.length → ∀ n, d < n → a.length ≤ maxLen →
    loopN (fun rec2 => fun
    | ((v2aa, ()), ()) =>
      (bif decide ((v2aa < ((a.length : Nat) : Int))) then
        (bif inB v2aa a.length then
          (bif inB v2aa b.length then
            (bif (!(decide ((a.getD v2aa.toNat 0 = b.getD v2aa.toNat 0)))) then
              some ((false, ()), ((), (), ()))
            else
              rec2 ((wrapI .i64 (v2aa + 1), ()), ()))
          else
            none)
        else
          none)
      else
        some ((true, ()), ((), (), ())))) n ((((i : Nat) : Int), ()), ()) = some ((decide (a.drop i = b.drop i), ()), ((), (), ())) := by
  intro d
  induction d with
  | zero =>
    intro i a b hi hab n hn hl
    obtain ⟨m, rfl⟩ : ∃ m, n = m + 1 := ⟨n - 1, by omega⟩
    obtain rfl : i = a.length := by omega
    rw [loopN_succ]
    simp only [lt_self, cond_false]
    rw [List.drop_length, hab, List.drop_length]
    simp
  | succ d ih =>
    intro i a b hi hab n hn hl
    obtain ⟨m, rfl⟩ : ∃ m, n = m + 1 := ⟨n - 1, by omega⟩
    have h : i < a.length := by omega
    have h2 : i < b.length := by omega
    rw [loopN_succ]
    simp only [lt_nat h, inB_nat h, inB_nat h2, getD_lt h, getD_lt h2, succ64 h hl, cond_true]
    rw [ih (i + 1) a b (by omega) hab m (by omega) hl, List.drop_eq_getElem_cons h, List.drop_eq_getElem_cons h2]
    by_cases e : a[i] = b[i]
    · have : decide (a[i] = b[i]) = true := decide_eq_true e
      rw [this, Bool.not_true, cond_false]
      have : decide (a[i] :: List.drop (i + 1) a = b[i] :: List.drop (i + 1) b) = decide (List.drop (i + 1) a = List.drop (i + 1) b) := by simp only [e, List.cons.injEq, true_and]
      rw [this]
    · have : decide (a[i] = b[i]) = false := decide_eq_false e
      rw [this, Bool.not_false, cond_true]
      have : decide (a[i] :: List.drop (i + 1) a = b[i] :: List.drop (i + 1) b) = false := decide_eq_false fun c => e (List.cons.inj c).1
      rw [this]
theorem ok_slices_Equal_int_int (x0 x1 : List Int) (hok : OkA I_slices_Equal_int_int.args (x0, x1, ())) : ∃ n, bodyE ty T_slices_Equal_int_int n I_slices_Equal_int_int (x0, x1, ()) = some ((decide (x0 = x1), ()), ((), (), ())) := ⟨x0.length + 1, by
  obtain ⟨⟨hl, _⟩, _⟩ := hok
  rw [B_slices_Equal_int_int_eq]
  unfold B_slices_Equal_int_int
  by_cases e : x0.length = x1.length
  · have : decide (((x0.length : Nat) : Int) = ((x1.length : Nat) : Int)) = true := by simp [e]
    simp only [this, Bool.not_true, cond_false]
    exact eqL x0.length 0 x0 x1 (by omega) e _ (Nat.lt_succ_self _) hl
  · have : decide (((x0.length : Nat) : Int) = ((x1.length : Nat) : Int)) = false := by simp; omega
    simp only [this, Bool.not_false, cond_true]
    have : decide (x0 = x1) = false := by simp; intro c; exact e (by rw [c])
    rw [this]⟩
noncomputable def E_slices_Equal_int_int : Entry Try.prog := Entry.of tok T_slices_Equal_int_int I_slices_Equal_int_int it_slices_Equal_int_int (fun (x0, x1, ()) => some ((decide (x0 = x1), ()), ((), (), ()))) (fun (x0, x1, ()) r hok h => by cases h; exact ok_slices_Equal_int_int x0 x1 hok)

end Go.Proofs.Ytlibmodfpkhdpaa
namespace Go.Proofs.Ytlibmodfpkhdpaa
open Go Go.VM
/-! ### etchhouse.drill.apart -/
noncomputable def I_drill_apart : Inst := ⟨34, Try.f34, .two (.reg []) (.two (.reg []) (.leaf)), (.cons (.pv i) (.cons (.pv i) .nil)), (.cons .flat i .nil)⟩
theorem it_drill_apart : InTab Try.prog I_drill_apart := ⟨Try.func34, by kernel_rfl, rfl⟩
noncomputable def T_drill_apart : Nat → Entry Try.prog := nth (Entry.no Try.f0) []
noncomputable def B_drill_apart (x0 : Int) (x1 : Int) : Option (((Int × Unit) × (Unit × (Unit × Unit)))) :=
  some (((bif decide ((wrapI .i64 (x0 - x1) < wrapI .i64 (x1 - x0))) then wrapI .i64 (x1 - x0) else wrapI .i64 (x0 - x1)), ()), ((), ((), ())))
theorem B_drill_apart_eq (n : Nat) (x0 : Int) (x1 : Int) : bodyE ty T_drill_apart n I_drill_apart (x0, (x1, ())) = B_drill_apart x0 x1 := by kernel_rfl
def S_apart (a b : Int) : Int := bif decide (wrapI .i64 (a - b) < wrapI .i64 (b - a)) then wrapI .i64 (b - a) else wrapI .i64 (a - b)
theorem ok_drill_apart (x0 x1 : Int) (hok : OkA I_drill_apart.args (x0, x1, ())) : ∃ n, bodyE ty T_drill_apart n I_drill_apart (x0, x1, ()) = some ((S_apart x0 x1, ()), ((), (), ())) := ⟨0, by rw [B_drill_apart_eq]; rfl⟩
noncomputable def E_drill_apart : Entry Try.prog := Entry.of tok T_drill_apart I_drill_apart it_drill_apart (fun (x0, x1, ()) => some ((S_apart x0 x1, ()), ((), (), ()))) (fun (x0, x1, ()) r hok h => by cases h; exact ok_drill_apart x0 x1 hok)

end Go.Proofs.Ytlibmodfpkhdpaa
namespace Go.Proofs.Ytlibmodfpkhdpaa
open Go Go.VM
/-! ### etchhouse.drill.Near -/
noncomputable def I_drill_Near : Inst := ⟨15, Try.f15, .two (.reg []) (.two (.two (.reg [(1, 0)]) (.two (.reg []) (.two (.two (.reg []) (.leaf)) (.leaf)))) (.two (.two (.reg [(1, 1)]) (.two (.two (.reg []) (.leaf)) (.leaf))) (.two (.reg []) (.two (.two (.reg []) (.one (.loop ⟨[(7, .st (.at (.rf 7 []))), (24, .pv i)], [(7, ⟨(.own .flat), (.sl (.pair i (.pair i (.pair i .unit)))), false, false⟩)], [0, 1, 22, 23], []⟩ (.two (.reg []) (.two (.two (.leaf) (.leaf)) (.two (.one (.two (.reg []) (.two (.reg []) (.one (.loop ⟨[(7, .st (.at (.rf 7 []))), (10, .pv i)], [(7, ⟨(.own .flat), (.sl (.pair i (.pair i (.pair i .unit)))), false, false⟩)], [0, 1, 8, 9, 22, 23, 24], [9]⟩ (.two (.two (.reg []) (.two (.leaf) (.leaf))) (.two (.one (.two (.reg []) (.two (.reg []) (.two (.draw [(6, 2), (15, 2)] [0, 1, 2, 3, 4, 5, 7, 9, 10, 11, 12, 13, 14, 16, 6, 8, 15, 17, 18, 19] [11, 9]) (.two (.reg []) (.two (.reg []) (.leaf))))))) (.reg [])))))))) (.reg []))))))) (.two (.reg []) (.leaf)))))), (.cons (.pv (.sl (.pair (.pair i (.pair i .unit)) (.pair i (.pair i (.pair .bool .unit)))))) (.cons (.pv i) .nil)), (.cons (.own .flat) (.sl (.pair i (.pair i (.pair i .unit)))) (.cons .flat i .nil))⟩
theorem it_drill_Near : InTab Try.prog I_drill_Near := ⟨Try.func15, by kernel_rfl, rfl⟩
noncomputable def T_drill_Near : Nat → Entry Try.prog := nth (Entry.no Try.f0) [E_drill_CheckHoles, E_drill_within, E_drill_apart]
noncomputable def B_drill_Near (n : Nat) (x0 : List ((Int × (Int × Unit)) × (Int × (Int × (Bool × Unit))))) (x1 : Int) : Option (((List (Int × (Int × (Int × Unit))) × (Int × Unit)) × (Unit × (Unit × Unit)))) :=
  (bif (!(decide ((S_chkH x0 = 0)))) then
    some (([], (S_chkH x0, ())), ((), ((), ())))
  else
    (bif (!(S_within x1 0 10000)) then
      some (([], (1, ())), ((), ((), ())))
    else
      loopN (fun rec1 => fun
      | ((v1aa, ()), (v1ba, ())) =>
        (bif decide ((v1aa < ((x0.length : Nat) : Int))) then
          (bif inB v1aa x0.length then
            loopN (fun rec2 => fun
            | ((v2aa, ()), (v2ba, ())) =>
              (bif decide ((v2aa < ((x0.length : Nat) : Int))) then
                (bif inB v2aa x0.length then
                  (bif decide (((bif decide (((bif decide ((0 < wrapI .i64 (S_apart (((x0.getD v1aa.toNat ((0, (0, ())), (0, (0, (false, ()))))).1).1) (((x0.getD v2aa.toNat ((0, (0, ())), (0, (0, (false, ()))))).1).1) - wrapI .i64 (Int.tdiv (wrapI .i64 (((x0.getD v1aa.toNat ((0, (0, ())), (0, (0, (false, ()))))).2).1 + ((x0.getD v2aa.toNat ((0, (0, ())), (0, (0, (false, ()))))).2).1)) 2)))) then wrapI .i64 (S_apart (((x0.getD v1aa.toNat ((0, (0, ())), (0, (0, (false, ()))))).1).1) (((x0.getD v2aa.toNat ((0, (0, ())), (0, (0, (false, ()))))).1).1) - wrapI .i64 (Int.tdiv (wrapI .i64 (((x0.getD v1aa.toNat ((0, (0, ())), (0, (0, (false, ()))))).2).1 + ((x0.getD v2aa.toNat ((0, (0, ())), (0, (0, (false, ()))))).2).1)) 2)) else 0) < wrapI .i64 (S_apart ((((x0.getD v1aa.toNat ((0, (0, ())), (0, (0, (false, ()))))).1).2).1) ((((x0.getD v2aa.toNat ((0, (0, ())), (0, (0, (false, ()))))).1).2).1) - wrapI .i64 (Int.tdiv (wrapI .i64 (((x0.getD v1aa.toNat ((0, (0, ())), (0, (0, (false, ()))))).2).1 + ((x0.getD v2aa.toNat ((0, (0, ())), (0, (0, (false, ()))))).2).1)) 2)))) then wrapI .i64 (S_apart ((((x0.getD v1aa.toNat ((0, (0, ())), (0, (0, (false, ()))))).1).2).1) ((((x0.getD v2aa.toNat ((0, (0, ())), (0, (0, (false, ()))))).1).2).1) - wrapI .i64 (Int.tdiv (wrapI .i64 (((x0.getD v1aa.toNat ((0, (0, ())), (0, (0, (false, ()))))).2).1 + ((x0.getD v2aa.toNat ((0, (0, ())), (0, (0, (false, ()))))).2).1)) 2)) else (bif decide ((0 < wrapI .i64 (S_apart (((x0.getD v1aa.toNat ((0, (0, ())), (0, (0, (false, ()))))).1).1) (((x0.getD v2aa.toNat ((0, (0, ())), (0, (0, (false, ()))))).1).1) - wrapI .i64 (Int.tdiv (wrapI .i64 (((x0.getD v1aa.toNat ((0, (0, ())), (0, (0, (false, ()))))).2).1 + ((x0.getD v2aa.toNat ((0, (0, ())), (0, (0, (false, ()))))).2).1)) 2)))) then wrapI .i64 (S_apart (((x0.getD v1aa.toNat ((0, (0, ())), (0, (0, (false, ()))))).1).1) (((x0.getD v2aa.toNat ((0, (0, ())), (0, (0, (false, ()))))).1).1) - wrapI .i64 (Int.tdiv (wrapI .i64 (((x0.getD v1aa.toNat ((0, (0, ())), (0, (0, (false, ()))))).2).1 + ((x0.getD v2aa.toNat ((0, (0, ())), (0, (0, (false, ()))))).2).1)) 2)) else 0)) < x1)) then
                    (bif (!(Ty.eqv (.pair (.int .i64) (.pair (.int .i64) .unit)) ((x0.getD v1aa.toNat ((0, (0, ())), (0, (0, (false, ()))))).1) ((x0.getD v2aa.toNat ((0, (0, ())), (0, (0, (false, ()))))).1))) then
                      (bif decide (((v2ba.length + 1) ≤ 4294967296)) then
                        rec2 ((wrapI .i64 (v2aa + 1), ()), ((v2ba ++ [(v1aa, (v2aa, ((bif decide (((bif decide ((0 < wrapI .i64 (S_apart (((x0.getD v1aa.toNat ((0, (0, ())), (0, (0, (false, ()))))).1).1) (((x0.getD v2aa.toNat ((0, (0, ())), (0, (0, (false, ()))))).1).1) - wrapI .i64 (Int.tdiv (wrapI .i64 (((x0.getD v1aa.toNat ((0, (0, ())), (0, (0, (false, ()))))).2).1 + ((x0.getD v2aa.toNat ((0, (0, ())), (0, (0, (false, ()))))).2).1)) 2)))) then wrapI .i64 (S_apart (((x0.getD v1aa.toNat ((0, (0, ())), (0, (0, (false, ()))))).1).1) (((x0.getD v2aa.toNat ((0, (0, ())), (0, (0, (false, ()))))).1).1) - wrapI .i64 (Int.tdiv (wrapI .i64 (((x0.getD v1aa.toNat ((0, (0, ())), (0, (0, (false, ()))))).2).1 + ((x0.getD v2aa.toNat ((0, (0, ())), (0, (0, (false, ()))))).2).1)) 2)) else 0) < wrapI .i64 (S_apart ((((x0.getD v1aa.toNat ((0, (0, ())), (0, (0, (false, ()))))).1).2).1) ((((x0.getD v2aa.toNat ((0, (0, ())), (0, (0, (false, ()))))).1).2).1) - wrapI .i64 (Int.tdiv (wrapI .i64 (((x0.getD v1aa.toNat ((0, (0, ())), (0, (0, (false, ()))))).2).1 + ((x0.getD v2aa.toNat ((0, (0, ())), (0, (0, (false, ()))))).2).1)) 2)))) then wrapI .i64 (S_apart ((((x0.getD v1aa.toNat ((0, (0, ())), (0, (0, (false, ()))))).1).2).1) ((((x0.getD v2aa.toNat ((0, (0, ())), (0, (0, (false, ()))))).1).2).1) - wrapI .i64 (Int.tdiv (wrapI .i64 (((x0.getD v1aa.toNat ((0, (0, ())), (0, (0, (false, ()))))).2).1 + ((x0.getD v2aa.toNat ((0, (0, ())), (0, (0, (false, ()))))).2).1)) 2)) else (bif decide ((0 < wrapI .i64 (S_apart (((x0.getD v1aa.toNat ((0, (0, ())), (0, (0, (false, ()))))).1).1) (((x0.getD v2aa.toNat ((0, (0, ())), (0, (0, (false, ()))))).1).1) - wrapI .i64 (Int.tdiv (wrapI .i64 (((x0.getD v1aa.toNat ((0, (0, ())), (0, (0, (false, ()))))).2).1 + ((x0.getD v2aa.toNat ((0, (0, ())), (0, (0, (false, ()))))).2).1)) 2)))) then wrapI .i64 (S_apart (((x0.getD v1aa.toNat ((0, (0, ())), (0, (0, (false, ()))))).1).1) (((x0.getD v2aa.toNat ((0, (0, ())), (0, (0, (false, ()))))).1).1) - wrapI .i64 (Int.tdiv (wrapI .i64 (((x0.getD v1aa.toNat ((0, (0, ())), (0, (0, (false, ()))))).2).1 + ((x0.getD v2aa.toNat ((0, (0, ())), (0, (0, (false, ()))))).2).1)) 2)) else 0)), ())))]), ()))
                      else
                        none)
                    else
                      rec2 ((wrapI .i64 (v2aa + 1), ()), (v2ba, ())))
                  else
                    rec2 ((wrapI .i64 (v2aa + 1), ()), (v2ba, ())))
                else
                  none)
              else
                rec1 ((wrapI .i64 (v1aa + 1), ()), (v2ba, ()))))
            n ((wrapI .i64 (v1aa + 1), ()), (v1ba, ()))
          else
            none)
        else
          some ((v1ba, (0, ())), ((), ((), ())))))
      n ((0, ()), ([], ()))))
theorem B_drill_Near_eq (n : Nat) (x0 : List ((Int × (Int × Unit)) × (Int × (Int × (Bool × Unit))))) (x1 : Int) : bodyE ty T_drill_Near n I_drill_Near (x0, (x1, ())) = B_drill_Near n x0 x1 := by kernel_rfl
def S_gap (a b : Hole) : Int :=
  bif decide ((bif decide (0 < wrapI .i64 (S_apart a.1.1 b.1.1 - wrapI .i64 (Int.tdiv (wrapI .i64 (a.2.1 + b.2.1)) 2))) then wrapI .i64 (S_apart a.1.1 b.1.1 - wrapI .i64 (Int.tdiv (wrapI .i64 (a.2.1 + b.2.1)) 2)) else 0) < wrapI .i64 (S_apart a.1.2.1 b.1.2.1 - wrapI .i64 (Int.tdiv (wrapI .i64 (a.2.1 + b.2.1)) 2)))
  then wrapI .i64 (S_apart a.1.2.1 b.1.2.1 - wrapI .i64 (Int.tdiv (wrapI .i64 (a.2.1 + b.2.1)) 2))
  else (bif decide (0 < wrapI .i64 (S_apart a.1.1 b.1.1 - wrapI .i64 (Int.tdiv (wrapI .i64 (a.2.1 + b.2.1)) 2))) then wrapI .i64 (S_apart a.1.1 b.1.1 - wrapI .i64 (Int.tdiv (wrapI .i64 (a.2.1 + b.2.1)) 2)) else 0)
def S_NearP (x0 : List Hole) (x1 : Int) : List Pr × Int := bif decide (S_chkH x0 = 0) then (bif S_within x1 0 10000 then (S_near S_gap x0 x1, 0) else ([], 1)) else ([], S_chkH x0)
theorem chkH_len {l : List Hole} (h : S_chkH l = 0) : l.length ≤ 2000 ∧ l.all S_hole = true := by
  unfold S_chkH at h
  cases hd : decide ((2000 : Int) < (l.length : Int)) with
  | true => rw [hd] at h; cases h
  | false =>
    rw [hd, cond_false] at h
    simp only [decide_eq_false_iff_not] at hd
    cases hc : l.all S_hole with
    | false => rw [hc] at h; cases h
    | true => exact ⟨by omega, rfl⟩
theorem ok_drill_Near (x0 : List Hole) (x1 : Int) (hok : OkA I_drill_Near.args (x0, x1, ())) : ∃ n, bodyE ty T_drill_Near n I_drill_Near (x0, x1, ()) = some (((S_NearP x0 x1).1, (S_NearP x0 x1).2, ()), ((), (), ())) := ⟨x0.length + 1, by
  obtain ⟨⟨hl, _⟩, _⟩ := hok
  rw [B_drill_Near_eq]
  unfold B_drill_Near S_NearP
  cases hc : decide (S_chkH x0 = 0) with
  | false => rfl
  | true =>
    simp only [Bool.not_true, cond_false, cond_true]
    cases hw : S_within x1 0 10000 with
    | false => rfl
    | true =>
      simp only [Bool.not_true, cond_false, cond_true]
      obtain ⟨h2, _⟩ := chkH_len (of_decide_eq_true hc)
      obtain ⟨c, hc2⟩ : ∃ c : Nat, c = 2000 := ⟨_, rfl⟩
      refine (loop_fold (l := x0) (fun i (s : List Pr) => ((i, ()), (s, ()))) (fun i s => s.length ≤ i * c) (fun a i o => foldI (nearF S_gap x1 i a) (x0.drop (i + 1)) (i + 1) o) (fun s => some ((s, 0, ()), ((), (), ()))) (fun i h s hI => ⟨?_, fun rec => ?_⟩) (fun s _ rec => by simp only [lt_self, cond_false]) (Nat.lt_succ_self _) (s := []) (Nat.zero_le _))
      · have := foldI_inv (f := nearF S_gap x1 i x0[i]) (fun k o => o.length ≤ s.length + (k - (i + 1))) (x0.drop (i + 1)) (i + 1) s (Nat.le_add_right _ _) (fun j a s' _ hJ => by
          have := near_len (g := S_gap) (below := x1) (i := i) (a := x0[i]) (b := a) (k := i + 1 + j) (o := s')
          omega)
        rw [List.length_drop] at this
        rw [Nat.succ_mul]
        omega
      · simp only [lt_nat h, inB_nat h, getD_lt h, succ64 h hl, cond_true]
        have hi2 : i * c ≤ 2000 * 2000 := Nat.mul_le_mul (by omega) (by omega)
        refine (loop_foldAt (l := x0) (fun k (s : List Pr) => ((k, ()), (s, ()))) (fun k o => i + 1 ≤ k ∧ o.length ≤ s.length + (k - (i + 1))) (nearF S_gap x1 i x0[i]) (fun s' => rec ((((i + 1 : Nat) : Int), ()), (s', ()))) (fun k hk s' hJ => ⟨?_, fun rec2 => ?_⟩) (fun s' _ rec2 => by simp only [lt_self, cond_false]) (Nat.lt_succ_self _) (i0 := i + 1) (by omega) (s := s) ⟨Nat.le_refl _, Nat.le_add_right _ _⟩)
        · have := near_len (g := S_gap) (below := x1) (i := i) (a := x0[i]) (b := x0[k]) (k := k) (o := s')
          omega
        · simp only [lt_nat hk, inB_nat hk, getD_lt hk, succ64 hk hl, cond_true, eqPt]
          have c3 : decide (s'.length + 1 ≤ 4294967296) = true := decide_eq_true (by omega)
          change (bif decide (S_gap x0[i] x0[k] < x1) then (bif (!decide (x0[i].1 = x0[k].1)) then (bif decide (s'.length + 1 ≤ 4294967296) then rec2 (_, (s' ++ [((i : Int), ((k : Int), (S_gap x0[i] x0[k], ())))], ())) else none) else _) else _) = _
          rw [c3]
          unfold nearF
          cases decide (S_gap x0[i] x0[k] < x1) <;> cases decide (x0[i].1 = x0[k].1) <;> rfl⟩
noncomputable def E_drill_Near : Entry Try.prog := Entry.of tok T_drill_Near I_drill_Near it_drill_Near (fun (x0, x1, ()) => some (((S_NearP x0 x1).1, (S_NearP x0 x1).2, ()), ((), (), ()))) (fun (x0, x1, ()) r hok h => by cases h; exact ok_drill_Near x0 x1 hok)

end Go.Proofs.Ytlibmodfpkhdpaa
namespace Go.Proofs.Ytlibmodfpkhdpaa
open Go Go.VM
/-! ### etchhouse.etchhouseref8.abs -/
noncomputable def I_etchhouseref8_abs : Inst := ⟨49, Try.f49, .two (.reg []) (.two (.reg []) (.leaf)), (.cons (.pv i) .nil), (.cons .flat i .nil)⟩
theorem it_etchhouseref8_abs : InTab Try.prog I_etchhouseref8_abs := ⟨Try.func49, by kernel_rfl, rfl⟩
noncomputable def T_etchhouseref8_abs : Nat → Entry Try.prog := nth (Entry.no Try.f0) []
noncomputable def B_etchhouseref8_abs (x0 : Int) : Option (((Int × Unit) × (Unit × Unit))) :=
  some (((bif decide ((x0 < wrapI .i64 (0 - x0))) then wrapI .i64 (0 - x0) else x0), ()), ((), ()))
theorem B_etchhouseref8_abs_eq (n : Nat) (x0 : Int) : bodyE ty T_etchhouseref8_abs n I_etchhouseref8_abs (x0, ()) = B_etchhouseref8_abs x0 := by kernel_rfl
def S_abs (a : Int) : Int := bif decide (a < wrapI .i64 (0 - a)) then wrapI .i64 (0 - a) else a
theorem ok_etchhouseref8_abs (x0 : Int) (hok : OkA I_etchhouseref8_abs.args (x0, ())) : ∃ n, bodyE ty T_etchhouseref8_abs n I_etchhouseref8_abs (x0, ()) = some ((S_abs x0, ()), ((), ())) := ⟨0, by rw [B_etchhouseref8_abs_eq]; rfl⟩
noncomputable def E_etchhouseref8_abs : Entry Try.prog := Entry.of tok T_etchhouseref8_abs I_etchhouseref8_abs it_etchhouseref8_abs (fun (x0, ()) => some ((S_abs x0, ()), ((), ()))) (fun (x0, ()) r hok h => by cases h; exact ok_etchhouseref8_abs x0 hok)

end Go.Proofs.Ytlibmodfpkhdpaa
namespace Go.Proofs.Ytlibmodfpkhdpaa
open Go Go.VM
/-! ### etchhouse.etchhouseref8.between -/
noncomputable def I_etchhouseref8_between : Inst := ⟨38, Try.f38, .two (.reg []) (.two (.reg []) (.two (.draw [(7, 0), (17, 0)] [0, 1, 2, 3, 4, 5, 6, 8, 10, 11, 12, 13, 14, 15, 16, 18, 7, 9, 17, 19, 20, 21] [3, 2]) (.leaf))), (.cons (.pv (.pair (.pair i (.pair i .unit)) (.pair i (.pair i (.pair .bool .unit))))) (.cons (.pv (.pair (.pair i (.pair i .unit)) (.pair i (.pair i (.pair .bool .unit))))) .nil)), (.cons .flat i .nil)⟩
theorem it_etchhouseref8_between : InTab Try.prog I_etchhouseref8_between := ⟨Try.func38, by kernel_rfl, rfl⟩
noncomputable def T_etchhouseref8_between : Nat → Entry Try.prog := nth (Entry.no Try.f0) [E_etchhouseref8_abs]
noncomputable def B_etchhouseref8_between (x0 : ((Int × (Int × Unit)) × (Int × (Int × (Bool × Unit))))) (x1 : ((Int × (Int × Unit)) × (Int × (Int × (Bool × Unit))))) : Option (((Int × Unit) × (Unit × (Unit × Unit)))) :=
  some (((bif decide (((bif decide ((0 < wrapI .i64 (S_abs (wrapI .i64 (x0.1.1 - x1.1.1)) - wrapI .i64 (Int.tdiv (wrapI .i64 (x0.2.1 + x1.2.1)) 2)))) then wrapI .i64 (S_abs (wrapI .i64 (x0.1.1 - x1.1.1)) - wrapI .i64 (Int.tdiv (wrapI .i64 (x0.2.1 + x1.2.1)) 2)) else 0) < wrapI .i64 (S_abs (wrapI .i64 (x0.1.2.1 - x1.1.2.1)) - wrapI .i64 (Int.tdiv (wrapI .i64 (x0.2.1 + x1.2.1)) 2)))) then wrapI .i64 (S_abs (wrapI .i64 (x0.1.2.1 - x1.1.2.1)) - wrapI .i64 (Int.tdiv (wrapI .i64 (x0.2.1 + x1.2.1)) 2)) else (bif decide ((0 < wrapI .i64 (S_abs (wrapI .i64 (x0.1.1 - x1.1.1)) - wrapI .i64 (Int.tdiv (wrapI .i64 (x0.2.1 + x1.2.1)) 2)))) then wrapI .i64 (S_abs (wrapI .i64 (x0.1.1 - x1.1.1)) - wrapI .i64 (Int.tdiv (wrapI .i64 (x0.2.1 + x1.2.1)) 2)) else 0)), ()), ((), ((), ())))
theorem B_etchhouseref8_between_eq (n : Nat) (x0 : ((Int × (Int × Unit)) × (Int × (Int × (Bool × Unit))))) (x1 : ((Int × (Int × Unit)) × (Int × (Int × (Bool × Unit))))) : bodyE ty T_etchhouseref8_between n I_etchhouseref8_between (x0, (x1, ())) = B_etchhouseref8_between x0 x1 := by kernel_rfl
def S_etchhouseref8_between (x0 : ((Int × (Int × Unit)) × (Int × (Int × (Bool × Unit))))) (x1 : ((Int × (Int × Unit)) × (Int × (Int × (Bool × Unit))))) : Int := (bif decide (((bif decide ((0 < wrapI .i64 (S_abs (wrapI .i64 (x0.1.1 - x1.1.1)) - wrapI .i64 (Int.tdiv (wrapI .i64 (x0.2.1 + x1.2.1)) 2)))) then wrapI .i64 (S_abs (wrapI .i64 (x0.1.1 - x1.1.1)) - wrapI .i64 (Int.tdiv (wrapI .i64 (x0.2.1 + x1.2.1)) 2)) else 0) < wrapI .i64 (S_abs (wrapI .i64 (x0.1.2.1 - x1.1.2.1)) - wrapI .i64 (Int.tdiv (wrapI .i64 (x0.2.1 + x1.2.1)) 2)))) then wrapI .i64 (S_abs (wrapI .i64 (x0.1.2.1 - x1.1.2.1)) - wrapI .i64 (Int.tdiv (wrapI .i64 (x0.2.1 + x1.2.1)) 2)) else (bif decide ((0 < wrapI .i64 (S_abs (wrapI .i64 (x0.1.1 - x1.1.1)) - wrapI .i64 (Int.tdiv (wrapI .i64 (x0.2.1 + x1.2.1)) 2)))) then wrapI .i64 (S_abs (wrapI .i64 (x0.1.1 - x1.1.1)) - wrapI .i64 (Int.tdiv (wrapI .i64 (x0.2.1 + x1.2.1)) 2)) else 0))
theorem ok_etchhouseref8_between (x0 : ((Int × (Int × Unit)) × (Int × (Int × (Bool × Unit))))) (x1 : ((Int × (Int × Unit)) × (Int × (Int × (Bool × Unit))))) (hok : OkA I_etchhouseref8_between.args (x0, x1, ())) : ∃ n, bodyE ty T_etchhouseref8_between n I_etchhouseref8_between (x0, x1, ()) = some (((S_etchhouseref8_between x0 x1), ()), ((), (), ())) := ⟨0, by rw [B_etchhouseref8_between_eq]; rfl⟩
noncomputable def E_etchhouseref8_between : Entry Try.prog := Entry.of tok T_etchhouseref8_between I_etchhouseref8_between it_etchhouseref8_between (fun (x0, x1, ()) => some (((S_etchhouseref8_between x0 x1), ()), ((), (), ()))) (fun (x0, x1, ()) r hok h => by cases h; exact ok_etchhouseref8_between x0 x1 hok)

end Go.Proofs.Ytlibmodfpkhdpaa
namespace Go.Proofs.Ytlibmodfpkhdpaa
open Go Go.VM
/-! ### etchhouse.etchhouseref8.Near -/
noncomputable def I_etchhouseref8_Near : Inst := ⟨19, Try.f19, .two (.reg []) (.two (.two (.reg [(1, 0)]) (.two (.reg []) (.two (.two (.reg []) (.leaf)) (.leaf)))) (.two (.two (.reg [(1, 1)]) (.two (.two (.reg []) (.leaf)) (.leaf))) (.two (.reg []) (.two (.two (.reg []) (.one (.loop ⟨[(7, .st (.at (.rf 7 []))), (22, .pv i)], [(7, ⟨(.own .flat), (.sl (.pair i (.pair i (.pair i .unit)))), false, false⟩)], [0, 1, 20, 21], []⟩ (.two (.reg []) (.two (.two (.leaf) (.leaf)) (.two (.one (.two (.reg []) (.two (.reg []) (.one (.loop ⟨[(7, .st (.at (.rf 7 []))), (10, .pv i)], [(7, ⟨(.own .flat), (.sl (.pair i (.pair i (.pair i .unit)))), false, false⟩)], [0, 1, 8, 9, 20, 21, 22], [9]⟩ (.two (.two (.reg []) (.two (.leaf) (.leaf))) (.two (.one (.two (.draw [(5, 2)] [0, 1, 2, 3, 4, 5, 6] [9]) (.two (.draw [] [0, 1, 2, 3, 4, 5, 6, 7, 8, 9, 10, 11, 12] [9]) (.two (.reg []) (.leaf))))) (.reg [])))))))) (.reg []))))))) (.two (.reg []) (.leaf)))))), (.cons (.pv (.sl (.pair (.pair i (.pair i .unit)) (.pair i (.pair i (.pair .bool .unit)))))) (.cons (.pv i) .nil)), (.cons (.own .flat) (.sl (.pair i (.pair i (.pair i .unit)))) (.cons .flat i .nil))⟩
theorem it_etchhouseref8_Near : InTab Try.prog I_etchhouseref8_Near := ⟨Try.func19, by kernel_rfl, rfl⟩
noncomputable def T_etchhouseref8_Near : Nat → Entry Try.prog := nth (Entry.no Try.f0) [E_etchhouseref8_CheckHoles, E_etchhouseref8_within, E_etchhouseref8_between]
noncomputable def B_etchhouseref8_Near (n : Nat) (x0 : List ((Int × (Int × Unit)) × (Int × (Int × (Bool × Unit))))) (x1 : Int) : Option (((List (Int × (Int × (Int × Unit))) × (Int × Unit)) × (Unit × (Unit × Unit)))) :=
  (bif (!(decide ((S_chkHR x0 = 0)))) then
    some (([], (S_chkHR x0, ())), ((), ((), ())))
  else
    (bif (!(S_within x1 0 10000)) then
      some (([], (1, ())), ((), ((), ())))
    else
      loopN (fun rec1 => fun
      | ((v1aa, ()), (v1ba, ())) =>
        (bif decide ((v1aa < ((x0.length : Nat) : Int))) then
          (bif inB v1aa x0.length then
            loopN (fun rec2 => fun
            | ((v2aa, ()), (v2ba, ())) =>
              (bif decide ((v2aa < ((x0.length : Nat) : Int))) then
                (bif inB v2aa x0.length then
                  (bif inB v2aa x0.length then
                    (bif (!(Ty.eqv (.pair (.int .i64) (.pair (.int .i64) .unit)) ((x0.getD v1aa.toNat ((0, (0, ())), (0, (0, (false, ()))))).1) ((x0.getD v2aa.toNat ((0, (0, ())), (0, (0, (false, ()))))).1))) then
                      (bif decide ((S_etchhouseref8_between (x0.getD v1aa.toNat ((0, (0, ())), (0, (0, (false, ()))))) (x0.getD v2aa.toNat ((0, (0, ())), (0, (0, (false, ()))))) < x1)) then
                        (bif decide (((v2ba.length + 1) ≤ 4294967296)) then
                          rec2 ((wrapI .i64 (v2aa + 1), ()), ((v2ba ++ [(v1aa, (v2aa, (S_etchhouseref8_between (x0.getD v1aa.toNat ((0, (0, ())), (0, (0, (false, ()))))) (x0.getD v2aa.toNat ((0, (0, ())), (0, (0, (false, ()))))), ())))]), ()))
                        else
                          none)
                      else
                        rec2 ((wrapI .i64 (v2aa + 1), ()), (v2ba, ())))
                    else
                      rec2 ((wrapI .i64 (v2aa + 1), ()), (v2ba, ())))
                  else
                    none)
                else
                  none)
              else
                rec1 ((wrapI .i64 (v1aa + 1), ()), (v2ba, ()))))
            n ((wrapI .i64 (v1aa + 1), ()), (v1ba, ()))
          else
            none)
        else
          some ((v1ba, (0, ())), ((), ((), ())))))
      n ((0, ()), ([], ()))))
theorem B_etchhouseref8_Near_eq (n : Nat) (x0 : List ((Int × (Int × Unit)) × (Int × (Int × (Bool × Unit))))) (x1 : Int) : bodyE ty T_etchhouseref8_Near n I_etchhouseref8_Near (x0, (x1, ())) = B_etchhouseref8_Near n x0 x1 := by kernel_rfl
def S_NearR (x0 : List Hole) (x1 : Int) : List Pr × Int := bif decide (S_chkHR x0 = 0) then (bif S_within x1 0 10000 then (S_near S_etchhouseref8_between x0 x1, 0) else ([], 1)) else ([], S_chkHR x0)
theorem chkHR_len {l : List Hole} (h : S_chkHR l = 0) : l.length ≤ 2000 ∧ l.all S_holeR = true := by
  unfold S_chkHR at h
  cases hd : decide ((2000 : Int) < (l.length : Int)) with
  | true => rw [hd] at h; cases h
  | false =>
    rw [hd, cond_false] at h
    simp only [decide_eq_false_iff_not] at hd
    cases hc : l.all S_holeR with
    | false => rw [hc] at h; cases h
    | true => exact ⟨by omega, rfl⟩
theorem ok_etchhouseref8_Near (x0 : List Hole) (x1 : Int) (hok : OkA I_etchhouseref8_Near.args (x0, x1, ())) : ∃ n, bodyE ty T_etchhouseref8_Near n I_etchhouseref8_Near (x0, x1, ()) = some (((S_NearR x0 x1).1, (S_NearR x0 x1).2, ()), ((), (), ())) := ⟨x0.length + 1, by
  obtain ⟨⟨hl, _⟩, _⟩ := hok
  rw [B_etchhouseref8_Near_eq]
  unfold B_etchhouseref8_Near S_NearR
  cases hc : decide (S_chkHR x0 = 0) with
  | false => rfl
  | true =>
    simp only [Bool.not_true, cond_false, cond_true]
    cases hw : S_within x1 0 10000 with
    | false => rfl
    | true =>
      simp only [Bool.not_true, cond_false, cond_true]
      obtain ⟨h2, _⟩ := chkHR_len (of_decide_eq_true hc)
      obtain ⟨c, hc2⟩ : ∃ c : Nat, c = 2000 := ⟨_, rfl⟩
      refine (loop_fold (l := x0) (fun i (s : List Pr) => ((i, ()), (s, ()))) (fun i s => s.length ≤ i * c) (fun a i o => foldI (nearF S_etchhouseref8_between x1 i a) (x0.drop (i + 1)) (i + 1) o) (fun s => some ((s, 0, ()), ((), (), ()))) (fun i h s hI => ⟨?_, fun rec => ?_⟩) (fun s _ rec => by simp only [lt_self, cond_false]) (Nat.lt_succ_self _) (s := []) (Nat.zero_le _))
      · have := foldI_inv (f := nearF S_etchhouseref8_between x1 i x0[i]) (fun k o => o.length ≤ s.length + (k - (i + 1))) (x0.drop (i + 1)) (i + 1) s (Nat.le_add_right _ _) (fun j a s' _ hJ => by
          have := near_len (g := S_etchhouseref8_between) (below := x1) (i := i) (a := x0[i]) (b := a) (k := i + 1 + j) (o := s')
          omega)
        rw [List.length_drop] at this
        rw [Nat.succ_mul]
        omega
      · simp only [lt_nat h, inB_nat h, getD_lt h, succ64 h hl, cond_true]
        have hi2 : i * c ≤ 2000 * 2000 := Nat.mul_le_mul (by omega) (by omega)
        refine (loop_foldAt (l := x0) (fun k (s : List Pr) => ((k, ()), (s, ()))) (fun k o => i + 1 ≤ k ∧ o.length ≤ s.length + (k - (i + 1))) (nearF S_etchhouseref8_between x1 i x0[i]) (fun s' => rec ((((i + 1 : Nat) : Int), ()), (s', ()))) (fun k hk s' hJ => ⟨?_, fun rec2 => ?_⟩) (fun s' _ rec2 => by simp only [lt_self, cond_false]) (Nat.lt_succ_self _) (i0 := i + 1) (by omega) (s := s) ⟨Nat.le_refl _, Nat.le_add_right _ _⟩)
        · have := near_len (g := S_etchhouseref8_between) (below := x1) (i := i) (a := x0[i]) (b := x0[k]) (k := k) (o := s')
          omega
        · simp only [lt_nat hk, inB_nat hk, getD_lt hk, succ64 hk hl, cond_true, eqPt]
          have c3 : decide (s'.length + 1 ≤ 4294967296) = true := decide_eq_true (by omega)
          simp only [c3]
          unfold nearF
          cases decide (S_etchhouseref8_between x0[i] x0[k] < x1) <;> cases decide (x0[i].1 = x0[k].1) <;> rfl⟩
noncomputable def E_etchhouseref8_Near : Entry Try.prog := Entry.of tok T_etchhouseref8_Near I_etchhouseref8_Near it_etchhouseref8_Near (fun (x0, x1, ()) => some (((S_NearR x0 x1).1, (S_NearR x0 x1).2, ()), ((), (), ()))) (fun (x0, x1, ()) r hok h => by cases h; exact ok_etchhouseref8_Near x0 x1 hok)

end Go.Proofs.Ytlibmodfpkhdpaa
namespace Go.Proofs.Ytlibmodfpkhdpaa
open Go Go.VM
/-! ### slices.Equal[[]etchhouse.api.Pair,etchhouse.api.Pair] -/
noncomputable def I_slices_Equal_etchhouse_api_Pair_etchhouse_api_Pair : Inst := ⟨20, Try.f20, .two (.reg []) (.two (.two (.reg []) (.two (.two (.reg []) (.leaf)) (.leaf))) (.two (.two (.reg []) (.one (.loop ⟨[(13, .pv i)], [], [0, 1, 12], []⟩ (.two (.reg []) (.two (.two (.leaf) (.leaf)) (.two (.one (.two (.reg []) (.two (.draw [] [0, 1, 2, 3, 4, 5, 6, 7, 8] []) (.two (.two (.reg []) (.leaf)) (.leaf))))) (.reg []))))))) (.two (.reg []) (.leaf)))), (.cons (.pv (.sl (.pair i (.pair i (.pair i .unit))))) (.cons (.pv (.sl (.pair i (.pair i (.pair i .unit))))) .nil)), (.cons .flat .bool .nil)⟩
theorem it_slices_Equal_etchhouse_api_Pair_etchhouse_api_Pair : InTab Try.prog I_slices_Equal_etchhouse_api_Pair_etchhouse_api_Pair := ⟨Try.func20, by kernel_rfl, rfl⟩
noncomputable def T_slices_Equal_etchhouse_api_Pair_etchhouse_api_Pair : Nat → Entry Try.prog := nth (Entry.no Try.f0) []
noncomputable def B_slices_Equal_etchhouse_api_Pair_etchhouse_api_Pair (n : Nat) (x0 : List (Int × (Int × (Int × Unit)))) (x1 : List (Int × (Int × (Int × Unit)))) : Option (((Bool × Unit) × (Unit × (Unit × Unit)))) :=
  (bif (!(decide ((((x0.length : Nat) : Int) = ((x1.length : Nat) : Int))))) then
    some ((false, ()), ((), ((), ())))
  else
    loopN (fun rec1 => fun
    | ((v1aa, ()), ()) =>
      (bif decide ((v1aa < ((x0.length : Nat) : Int))) then
        (bif inB v1aa x0.length then
          (bif inB v1aa x1.length then
            (bif (!(Ty.eqv (.pair (.int .i64) (.pair (.int .i64) (.pair (.int .i64) .unit))) (x0.getD v1aa.toNat (0, (0, (0, ())))) (x1.getD v1aa.toNat (0, (0, (0, ())))))) then
              some ((false, ()), ((), ((), ())))
            else
              rec1 ((wrapI .i64 (v1aa + 1), ()), ()))
          else
            none)
        else
          none)
      else
        some ((true, ()), ((), ((), ())))))
    n ((0, ()), ()))
theorem B_slices_Equal_etchhouse_api_Pair_etchhouse_api_Pair_eq (n : Nat) (x0 : List (Int × (Int × (Int × Unit)))) (x1 : List (Int × (Int × (Int × Unit)))) : bodyE ty T_slices_Equal_etchhouse_api_Pair_etchhouse_api_Pair n I_slices_Equal_etchhouse_api_Pair_etchhouse_api_Pair (x0, (x1, ())) = B_slices_Equal_etchhouse_api_Pair_etchhouse_api_Pair n x0 x1 := by kernel_rfl
theorem ok_slices_Equal_etchhouse_api_Pair_etchhouse_api_Pair (x0 x1 : List (Int × (Int × (Int × Unit)))) (hok : OkA I_slices_Equal_etchhouse_api_Pair_etchhouse_api_Pair.args (x0, x1, ())) : ∃ n, bodyE ty T_slices_Equal_etchhouse_api_Pair_etchhouse_api_Pair n I_slices_Equal_etchhouse_api_Pair_etchhouse_api_Pair (x0, x1, ()) = some ((decide (x0 = x1), ()), ((), (), ())) := ⟨x0.length + 1, by
  obtain ⟨⟨hl, _⟩, _⟩ := hok
  rw [B_slices_Equal_etchhouse_api_Pair_etchhouse_api_Pair_eq]
  unfold B_slices_Equal_etchhouse_api_Pair_etchhouse_api_Pair
  exact equal_loop (q := fun x y : (Int × (Int × (Int × Unit))) => Ty.eqv (.pair i (.pair i (.pair i .unit))) x y) (fun x y => by rw [Bool.eq_iff_iff, eqv_iff (t := (.pair i (.pair i (.pair i .unit)))) rfl]; simp) (R := fun b => ((b, ()), ((), (), ()))) (d := (0, (0, (0, ())))) hl (Nat.lt_succ_self _)⟩
noncomputable def E_slices_Equal_etchhouse_api_Pair_etchhouse_api_Pair : Entry Try.prog := Entry.of tok T_slices_Equal_etchhouse_api_Pair_etchhouse_api_Pair I_slices_Equal_etchhouse_api_Pair_etchhouse_api_Pair it_slices_Equal_etchhouse_api_Pair_etchhouse_api_Pair (fun (x0, x1, ()) => some ((decide (x0 = x1), ()), ((), (), ()))) (fun (x0, x1, ()) r hok h => by cases h; exact ok_slices_Equal_etchhouse_api_Pair_etchhouse_api_Pair x0 x1 hok)

end Go.Proofs.Ytlibmodfpkhdpaa
namespace Go.Proofs.Ytlibmodfpkhdpaa
open Go Go.VM
/-! ### etchhouse.drill.checkPoints$1 -/
noncomputable def I_drill_checkPoints_1 : Inst := ⟨47, Try.f47, .two (.reg []) (.two (.reg [(1, 0)]) (.leaf)), (.cons (.pv (.pair i (.pair i .unit))) .nil), (.cons .flat .bool .nil)⟩
theorem it_drill_checkPoints_1 : InTab Try.prog I_drill_checkPoints_1 := ⟨Try.func47, by kernel_rfl, rfl⟩
noncomputable def T_drill_checkPoints_1 : Nat → Entry Try.prog := nth (Entry.no Try.f0) [E_shape_IsPoint]
noncomputable def B_drill_checkPoints_1 (x0 : (Int × (Int × Unit))) : Option (((Bool × Unit) × (Unit × Unit))) :=
  some (((!(S_isPt x0)), ()), ((), ()))
theorem B_drill_checkPoints_1_eq (n : Nat) (x0 : (Int × (Int × Unit))) : bodyE ty T_drill_checkPoints_1 n I_drill_checkPoints_1 (x0, ()) = B_drill_checkPoints_1 x0 := by kernel_rfl
theorem ok_drill_checkPoints_1 (x0 : Int × Int × Unit) (hok : OkA I_drill_checkPoints_1.args (x0, ())) : ∃ n, bodyE ty T_drill_checkPoints_1 n I_drill_checkPoints_1 (x0, ()) = some ((!S_isPt x0, ()), ((), ())) := ⟨0, by rw [B_drill_checkPoints_1_eq]; rfl⟩
noncomputable def E_drill_checkPoints_1 : Entry Try.prog := Entry.of tok T_drill_checkPoints_1 I_drill_checkPoints_1 it_drill_checkPoints_1 (fun (x0, ()) => some ((!S_isPt x0, ()), ((), ()))) (fun (x0, ()) r hok h => by cases h; exact ok_drill_checkPoints_1 x0 hok)

end Go.Proofs.Ytlibmodfpkhdpaa
namespace Go.Proofs.Ytlibmodfpkhdpaa
open Go Go.VM
/-! ### slices.IndexFunc[[]etchhouse.api.Point,etchhouse.api.Point] -/
noncomputable def I_slices_IndexFunc_etchhouse_api_Point_etchhouse_api_Point_of_drill_checkPoints_1 : Inst := ⟨54, Try.f54, .two (.reg []) (.two (.two (.reg []) (.one (.loop ⟨[(8, .pv i)], [], [0, 1, 7], []⟩ (.two (.reg []) (.two (.two (.leaf) (.leaf)) (.two (.one (.two (.reg []) (.two (.reg [(5, 0)]) (.two (.two (.reg []) (.leaf)) (.leaf))))) (.reg []))))))) (.two (.reg []) (.leaf))), (.cons (.pv (.sl (.pair i (.pair i .unit)))) (.cons (.fn 47 .nil) .nil)), (.cons .flat i .nil)⟩
theorem it_slices_IndexFunc_etchhouse_api_Point_etchhouse_api_Point_of_drill_checkPoints_1 : InTab Try.prog I_slices_IndexFunc_etchhouse_api_Point_etchhouse_api_Point_of_drill_checkPoints_1 := ⟨Try.func54, by kernel_rfl, rfl⟩
noncomputable def T_slices_IndexFunc_etchhouse_api_Point_etchhouse_api_Point_of_drill_checkPoints_1 : Nat → Entry Try.prog := nth (Entry.no Try.f0) [E_drill_checkPoints_1]
noncomputable def B_slices_IndexFunc_etchhouse_api_Point_etchhouse_api_Point_of_drill_checkPoints_1 (n : Nat) (x0 : List (Int × (Int × Unit))) (x1 : Unit) : Option (((Int × Unit) × (Unit × (Unit × Unit)))) :=
  loopN (fun rec1 => fun
  | ((v1aa, ()), ()) =>
    (bif decide ((v1aa < ((x0.length : Nat) : Int))) then
      (bif inB v1aa x0.length then
        (bif (!(S_isPt (x0.getD v1aa.toNat (0, (0, ()))))) then
          some ((v1aa, ()), ((), ((), ())))
        else
          rec1 ((wrapI .i64 (v1aa + 1), ()), ()))
      else
        none)
    else
      some (((-1), ()), ((), ((), ())))))
  n ((0, ()), ())
theorem B_slices_IndexFunc_etchhouse_api_Point_etchhouse_api_Point_of_drill_checkPoints_1_eq (n : Nat) (x0 : List (Int × (Int × Unit))) (x1 : Unit) : bodyE ty T_slices_IndexFunc_etchhouse_api_Point_etchhouse_api_Point_of_drill_checkPoints_1 n I_slices_IndexFunc_etchhouse_api_Point_etchhouse_api_Point_of_drill_checkPoints_1 (x0, (x1, ())) = B_slices_IndexFunc_etchhouse_api_Point_etchhouse_api_Point_of_drill_checkPoints_1 n x0 x1 := by kernel_rfl
def S_idxPt : List (Int × Int × Unit) → Nat → Int
  | [], _ => -1
  | a :: r, i => bif S_isPt a then S_idxPt r (i + 1) else (i : Int)
theorem idxPt_neg : ∀ (l : List (Int × Int × Unit)) (i : Nat), decide (0 ≤ S_idxPt l i) = !l.all S_isPt
  | [], i => by simp [S_idxPt]
  | a :: r, i => by
    have ih := idxPt_neg r (i + 1)
    by_cases h : S_isPt a = true
    · have : S_idxPt (a :: r) i = S_idxPt r (i + 1) := by simp only [S_idxPt, h, cond_true]
      rw [this, ih]; simp [h]
    · have h : S_isPt a = false := by simpa using h
      have : S_idxPt (a :: r) i = i := by simp only [S_idxPt, h, cond_false]
      rw [this]; simp [h]
theorem ok_slices_IndexFunc_etchhouse_api_Point_etchhouse_api_Point_of_drill_checkPoints_1 (x0 : List (Int × Int × Unit)) (hok : OkA I_slices_IndexFunc_etchhouse_api_Point_etchhouse_api_Point_of_drill_checkPoints_1.args (x0, (), ())) : ∃ n, bodyE ty T_slices_IndexFunc_etchhouse_api_Point_etchhouse_api_Point_of_drill_checkPoints_1 n I_slices_IndexFunc_etchhouse_api_Point_etchhouse_api_Point_of_drill_checkPoints_1 (x0, (), ()) = some ((S_idxPt x0 0, ()), ((), (), ())) := ⟨x0.length + 1, by
  obtain ⟨⟨hl, _⟩, _⟩ := hok
  rw [B_slices_IndexFunc_etchhouse_api_Point_etchhouse_api_Point_of_drill_checkPoints_1_eq]
  unfold B_slices_IndexFunc_etchhouse_api_Point_etchhouse_api_Point_of_drill_checkPoints_1
  refine (loop_list (l := x0) (fun i (_ : Unit) => ((i, ()), ())) (fun a i _ => bif S_isPt a then .inl () else .inr (some (((i : Int), ()), ((), (), ())))) (fun _ => some ((-1, ()), ((), (), ()))) (fun i h s rec => ?_) (fun s rec => ?_) (Nat.lt_succ_self _) ()).trans ?_
  · simp only [lt_nat h, inB_nat h, getD_lt h, succ64 h hl, cond_true]
    cases S_isPt x0[i] <;> rfl
  · simp only [lt_self, cond_false]
  · have : ∀ (l : List (Int × Int × Unit)) i, goL (fun a i (_ : Unit) => bif S_isPt a then .inl () else .inr (some (((i : Int), ()), ((), (), ())))) (fun _ => some ((-1, ()), ((), (), ()))) l i () = some ((S_idxPt l i, ()), ((), (), ())) := by
      intro l
      induction l with
      | nil => intro i; rfl
      | cons a r ih =>
        intro i
        simp only [goL, S_idxPt]
        cases S_isPt a with
        | true => simpa using ih (i + 1)
        | false => rfl
    exact this x0 0⟩
noncomputable def E_slices_IndexFunc_etchhouse_api_Point_etchhouse_api_Point_of_drill_checkPoints_1 : Entry Try.prog := Entry.of tok T_slices_IndexFunc_etchhouse_api_Point_etchhouse_api_Point_of_drill_checkPoints_1 I_slices_IndexFunc_etchhouse_api_Point_etchhouse_api_Point_of_drill_checkPoints_1 it_slices_IndexFunc_etchhouse_api_Point_etchhouse_api_Point_of_drill_checkPoints_1 (fun (x0, (), ()) => some ((S_idxPt x0 0, ()), ((), (), ()))) (fun (x0, (), ()) r hok h => by cases h; exact ok_slices_IndexFunc_etchhouse_api_Point_etchhouse_api_Point_of_drill_checkPoints_1 x0 hok)

end Go.Proofs.Ytlibmodfpkhdpaa
namespace Go.Proofs.Ytlibmodfpkhdpaa
open Go Go.VM
/-! ### slices.ContainsFunc[[]etchhouse.api.Point,etchhouse.api.Point] -/
noncomputable def I_slices_ContainsFunc_etchhouse_api_Point_etchhouse_api_Point_of_drill_checkPoints_1 : Inst := ⟨46, Try.f46, .two (.reg []) (.two (.reg [(2, 0)]) (.leaf)), (.cons (.pv (.sl (.pair i (.pair i .unit)))) (.cons (.fn 47 .nil) .nil)), (.cons .flat .bool .nil)⟩
theorem it_slices_ContainsFunc_etchhouse_api_Point_etchhouse_api_Point_of_drill_checkPoints_1 : InTab Try.prog I_slices_ContainsFunc_etchhouse_api_Point_etchhouse_api_Point_of_drill_checkPoints_1 := ⟨Try.func46, by kernel_rfl, rfl⟩
noncomputable def T_slices_ContainsFunc_etchhouse_api_Point_etchhouse_api_Point_of_drill_checkPoints_1 : Nat → Entry Try.prog := nth (Entry.no Try.f0) [E_slices_IndexFunc_etchhouse_api_Point_etchhouse_api_Point_of_drill_checkPoints_1]
noncomputable def B_slices_ContainsFunc_etchhouse_api_Point_etchhouse_api_Point_of_drill_checkPoints_1 (x0 : List (Int × (Int × Unit))) (x1 : Unit) : Option (((Bool × Unit) × (Unit × (Unit × Unit)))) :=
  some ((decide ((0 ≤ S_idxPt x0 0)), ()), ((), ((), ())))
theorem B_slices_ContainsFunc_etchhouse_api_Point_etchhouse_api_Point_of_drill_checkPoints_1_eq (n : Nat) (x0 : List (Int × (Int × Unit))) (x1 : Unit) : bodyE ty T_slices_ContainsFunc_etchhouse_api_Point_etchhouse_api_Point_of_drill_checkPoints_1 n I_slices_ContainsFunc_etchhouse_api_Point_etchhouse_api_Point_of_drill_checkPoints_1 (x0, (x1, ())) = B_slices_ContainsFunc_etchhouse_api_Point_etchhouse_api_Point_of_drill_checkPoints_1 x0 x1 := by kernel_rfl
noncomputable def E_slices_ContainsFunc_etchhouse_api_Point_etchhouse_api_Point_of_drill_checkPoints_1 : Entry Try.prog := Entry.of tok T_slices_ContainsFunc_etchhouse_api_Point_etchhouse_api_Point_of_drill_checkPoints_1 I_slices_ContainsFunc_etchhouse_api_Point_etchhouse_api_Point_of_drill_checkPoints_1 it_slices_ContainsFunc_etchhouse_api_Point_etchhouse_api_Point_of_drill_checkPoints_1 (fun x => B_slices_ContainsFunc_etchhouse_api_Point_etchhouse_api_Point_of_drill_checkPoints_1 x.1 x.2.1) (fun (a0, a1, ()) r _ h => ⟨0, (B_slices_ContainsFunc_etchhouse_api_Point_etchhouse_api_Point_of_drill_checkPoints_1_eq 0 a0 a1).trans h⟩)

end Go.Proofs.Ytlibmodfpkhdpaa
namespace Go.Proofs.Ytlibmodfpkhdpaa
open Go Go.VM
/-! ### etchhouse.drill.checkPoints -/
noncomputable def I_drill_checkPoints : Inst := ⟨26, Try.f26, .two (.reg []) (.two (.two (.reg []) (.two (.two (.reg []) (.leaf)) (.leaf))) (.two (.two (.reg [(1, 0), (5, 1)]) (.two (.two (.reg []) (.leaf)) (.leaf))) (.two (.reg []) (.leaf)))), (.cons (.pv (.sl (.pair i (.pair i .unit)))) (.cons (.pv (.pair i (.pair i .unit))) (.cons (.pv i) .nil))), (.cons .flat i .nil)⟩
theorem it_drill_checkPoints : InTab Try.prog I_drill_checkPoints := ⟨Try.func26, by kernel_rfl, rfl⟩
noncomputable def T_drill_checkPoints : Nat → Entry Try.prog := nth (Entry.no Try.f0) [E_shape_IsPoint, E_slices_ContainsFunc_etchhouse_api_Point_etchhouse_api_Point_of_drill_checkPoints_1]
noncomputable def B_drill_checkPoints (x0 : List (Int × (Int × Unit))) (x1 : (Int × (Int × Unit))) (x2 : Int) : Option (((Int × Unit) × (Unit × (Unit × (Unit × Unit))))) :=
  (bif decide ((x2 < ((x0.length : Nat) : Int))) then
    some ((2, ()), ((), ((), ((), ()))))
  else
    (bif (!(S_isPt x1)) then
      some ((1, ()), ((), ((), ((), ()))))
    else
      ((B_slices_ContainsFunc_etchhouse_api_Point_etchhouse_api_Point_of_drill_checkPoints_1 x0 ()).bind fun ((r1aa, ()), ((), ((), ()))) =>
      (bif r1aa then
        some ((1, ()), ((), ((), ((), ()))))
      else
        some ((0, ()), ((), ((), ((), ()))))))))
theorem B_drill_checkPoints_eq (n : Nat) (x0 : List (Int × (Int × Unit))) (x1 : (Int × (Int × Unit))) (x2 : Int) : bodyE ty T_drill_checkPoints n I_drill_checkPoints (x0, (x1, (x2, ()))) = B_drill_checkPoints x0 x1 x2 := by kernel_rfl
def S_chk (l : List Pt) (p : Pt) (most : Int) : Int := bif decide (most < (l.length : Int)) then 2 else bif S_isPt p && l.all S_isPt then 0 else 1
theorem ok_drill_checkPoints (x0 : List Pt) (x1 : Pt) (x2 : Int) (hok : OkA I_drill_checkPoints.args (x0, x1, x2, ())) : ∃ n, bodyE ty T_drill_checkPoints n I_drill_checkPoints (x0, x1, x2, ()) = some ((S_chk x0 x1 x2, ()), ((), (), (), ())) := ⟨0, by
  rw [B_drill_checkPoints_eq]
  unfold B_drill_checkPoints S_chk
  cases decide (x2 < (x0.length : Int)) with
  | true => rfl
  | false =>
    cases S_isPt x1 with
    | false => rfl
    | true =>
      have : B_slices_ContainsFunc_etchhouse_api_Point_etchhouse_api_Point_of_drill_checkPoints_1 x0 () = some ((!x0.all S_isPt, ()), ((), ((), ()))) := by
        unfold B_slices_ContainsFunc_etchhouse_api_Point_etchhouse_api_Point_of_drill_checkPoints_1
        rw [idxPt_neg]
      simp only [cond_false, Bool.not_true, this, Option.bind_some, Bool.true_and]
      cases x0.all S_isPt <;> rfl⟩
noncomputable def E_drill_checkPoints : Entry Try.prog := Entry.of tok T_drill_checkPoints I_drill_checkPoints it_drill_checkPoints (fun (x0, x1, x2, ()) => some ((S_chk x0 x1 x2, ()), ((), (), (), ()))) (fun (x0, x1, x2, ()) r hok h => by cases h; exact ok_drill_checkPoints x0 x1 x2 hok)

end Go.Proofs.Ytlibmodfpkhdpaa
namespace Go.Proofs.Ytlibmodfpkhdpaa
open Go Go.VM
/-! ### etchhouse.drill.far -/
noncomputable def I_drill_far : Inst := ⟨39, Try.f39, .two (.reg []) (.two (.draw [(4, 0), (9, 0)] [0, 1, 2, 3, 5, 6, 7, 8, 4, 9, 10, 11] [3, 2]) (.leaf)), (.cons (.pv (.pair i (.pair i .unit))) (.cons (.pv (.pair i (.pair i .unit))) .nil)), (.cons .flat i .nil)⟩
theorem it_drill_far : InTab Try.prog I_drill_far := ⟨Try.func39, by kernel_rfl, rfl⟩
noncomputable def T_drill_far : Nat → Entry Try.prog := nth (Entry.no Try.f0) [E_drill_apart]
noncomputable def B_drill_far (x0 : (Int × (Int × Unit))) (x1 : (Int × (Int × Unit))) : Option (((Int × Unit) × (Unit × (Unit × Unit)))) :=
  some (((bif decide ((S_apart x0.1 x1.1 < S_apart x0.2.1 x1.2.1)) then S_apart x0.2.1 x1.2.1 else S_apart x0.1 x1.1), ()), ((), ((), ())))
theorem B_drill_far_eq (n : Nat) (x0 : (Int × (Int × Unit))) (x1 : (Int × (Int × Unit))) : bodyE ty T_drill_far n I_drill_far (x0, (x1, ())) = B_drill_far x0 x1 := by kernel_rfl
def S_far (p q : Pt) : Int := bif decide (S_apart p.1 q.1 < S_apart p.2.1 q.2.1) then S_apart p.2.1 q.2.1 else S_apart p.1 q.1
theorem ok_drill_far (x0 x1 : Pt) (hok : OkA I_drill_far.args (x0, x1, ())) : ∃ n, bodyE ty T_drill_far n I_drill_far (x0, x1, ()) = some ((S_far x0 x1, ()), ((), (), ())) := ⟨0, by rw [B_drill_far_eq]; rfl⟩
noncomputable def E_drill_far : Entry Try.prog := Entry.of tok T_drill_far I_drill_far it_drill_far (fun (x0, x1, ()) => some ((S_far x0 x1, ()), ((), (), ()))) (fun (x0, x1, ()) r hok h => by cases h; exact ok_drill_far x0 x1 hok)

end Go.Proofs.Ytlibmodfpkhdpaa
namespace Go.Proofs.Ytlibmodfpkhdpaa
open Go Go.VM
/-! ### etchhouse.drill.way -/
noncomputable def I_drill_way : Inst := ⟨27, Try.f27, .two (.reg []) (.two (.reg []) (.two (.two (.reg []) (.one (.loop ⟨[(5, .pv i), (10, .pv i)], [(3, ⟨.flat, (.pair i (.pair i .unit)), true, false⟩)], [3, 8, 9], []⟩ (.two (.reg []) (.two (.two (.leaf) (.leaf)) (.two (.one (.two (.reg []) (.two (.reg [(3, 0)]) (.reg [])))) (.reg []))))))) (.two (.reg []) (.leaf)))), (.cons (.pv (.sl (.pair i (.pair i .unit)))) (.cons (.pv (.pair i (.pair i .unit))) .nil)), (.cons .flat i .nil)⟩
theorem it_drill_way : InTab Try.prog I_drill_way := ⟨Try.func27, by kernel_rfl, rfl⟩
noncomputable def T_drill_way : Nat → Entry Try.prog := nth (Entry.no Try.f0) [E_drill_far]
noncomputable def B_drill_way (n : Nat) (x0 : List (Int × (Int × Unit))) (x1 : (Int × (Int × Unit))) : Option (((Int × Unit) × (Unit × (Unit × Unit)))) :=
  loopN (fun rec1 => fun
  | ((v1aa, (v1aba, ())), ((v1baa, (v1baba, ())), ())) =>
    (bif decide ((v1aba < ((x0.length : Nat) : Int))) then
      (bif inB v1aba x0.length then
        rec1 ((wrapI .i64 (v1aa + S_far (v1baa, (v1baba, ())) (x0.getD v1aba.toNat (0, (0, ())))), (wrapI .i64 (v1aba + 1), ())), (x0.getD v1aba.toNat (0, (0, ())), ()))
      else
        none)
    else
      some ((v1aa, ()), ((), ((), ())))))
  n ((0, (0, ())), (x1, ()))
theorem B_drill_way_eq (n : Nat) (x0 : List (Int × (Int × Unit))) (x1 : (Int × (Int × Unit))) : bodyE ty T_drill_way n I_drill_way (x0, (x1, ())) = B_drill_way n x0 x1 := by kernel_rfl
theorem ok_drill_way (x0 : List Pt) (x1 : Pt) (hok : OkA I_drill_way.args (x0, x1, ())) : ∃ n, bodyE ty T_drill_way n I_drill_way (x0, x1, ()) = some ((S_way S_far x0 x1, ()), ((), (), ())) := ⟨x0.length + 1, by
  obtain ⟨⟨hl, _⟩, _⟩ := hok
  rw [B_drill_way_eq]
  unfold B_drill_way
  refine (loop_fold (l := x0) (fun i (s : Int × Pt) => ((s.1, (i, ())), (s.2, ()))) (fun _ _ => True) (wayF S_far) (fun s => some ((s.1, ()), ((), (), ()))) (fun i h s _ => ?_) (fun s _ rec => ?_) (Nat.lt_succ_self _) (s := (0, x1)) trivial)
  · obtain ⟨s, a, b, ⟨⟩⟩ := s
    exact ⟨trivial, fun rec => by simp only [lt_nat h, inB_nat h, getD_lt h, succ64 h hl, cond_true]; rfl⟩
  · obtain ⟨s, a, b, ⟨⟩⟩ := s
    simp only [lt_self, cond_false]⟩
noncomputable def E_drill_way : Entry Try.prog := Entry.of tok T_drill_way I_drill_way it_drill_way (fun (x0, x1, ()) => some ((S_way S_far x0 x1, ()), ((), (), ()))) (fun (x0, x1, ()) r hok h => by cases h; exact ok_drill_way x0 x1 hok)

end Go.Proofs.Ytlibmodfpkhdpaa
namespace Go.Proofs.Ytlibmodfpkhdpaa
open Go Go.VM
/-! ### etchhouse.drill.Way -/
noncomputable def I_drill_Way : Inst := ⟨9, Try.f9, .two (.reg []) (.two (.two (.reg [(2, 0)]) (.two (.reg []) (.two (.two (.reg []) (.leaf)) (.leaf)))) (.two (.reg [(2, 1)]) (.leaf))), (.cons (.pv (.sl (.pair i (.pair i .unit)))) (.cons (.pv (.pair i (.pair i .unit))) .nil)), (.cons .flat i (.cons .flat i .nil))⟩
theorem it_drill_Way : InTab Try.prog I_drill_Way := ⟨Try.func9, by kernel_rfl, rfl⟩
noncomputable def T_drill_Way : Nat → Entry Try.prog := nth (Entry.no Try.f0) [E_drill_checkPoints, E_drill_way]
noncomputable def B_drill_Way (x0 : List (Int × (Int × Unit))) (x1 : (Int × (Int × Unit))) : Option (((Int × (Int × Unit)) × (Unit × (Unit × Unit)))) :=
  (bif (!(decide ((S_chk x0 x1 2000 = 0)))) then
    some ((0, (S_chk x0 x1 2000, ())), ((), ((), ())))
  else
    some ((S_way S_far x0 x1, (0, ())), ((), ((), ()))))
theorem B_drill_Way_eq (n : Nat) (x0 : List (Int × (Int × Unit))) (x1 : (Int × (Int × Unit))) : bodyE ty T_drill_Way n I_drill_Way (x0, (x1, ())) = B_drill_Way x0 x1 := by kernel_rfl
def S_WayP (x0 : List Pt) (x1 : Pt) : Int × Int := bif decide (S_chk x0 x1 2000 = 0) then (S_way S_far x0 x1, 0) else (0, S_chk x0 x1 2000)
theorem ok_drill_Way (x0 : List Pt) (x1 : Pt) (hok : OkA I_drill_Way.args (x0, x1, ())) : ∃ n, bodyE ty T_drill_Way n I_drill_Way (x0, x1, ()) = some (((S_WayP x0 x1).1, (S_WayP x0 x1).2, ()), ((), (), ())) := ⟨0, by
  rw [B_drill_Way_eq]
  unfold B_drill_Way S_WayP
  cases decide (S_chk x0 x1 2000 = 0) <;> rfl⟩
noncomputable def E_drill_Way : Entry Try.prog := Entry.of tok T_drill_Way I_drill_Way it_drill_Way (fun (x0, x1, ()) => some (((S_WayP x0 x1).1, (S_WayP x0 x1).2, ()), ((), (), ()))) (fun (x0, x1, ()) r hok h => by cases h; exact ok_drill_Way x0 x1 hok)

end Go.Proofs.Ytlibmodfpkhdpaa
namespace Go.Proofs.Ytlibmodfpkhdpaa
open Go Go.VM
/-! ### etchhouse.etchhouselaw8.awake -/
noncomputable def I_etchhouselaw8_awake : Inst := ⟨14, Try.f14, .two (.reg []) (.two (.reg [(5, 0)]) (.two (.reg []) (.leaf))), .nil, (.cons .flat .bool .nil)⟩
theorem it_etchhouselaw8_awake : InTab Try.prog I_etchhouselaw8_awake := ⟨Try.func14, by kernel_rfl, rfl⟩
noncomputable def T_etchhouselaw8_awake : Nat → Entry Try.prog := nth (Entry.no Try.f0) [E_drill_Way]
noncomputable def B_etchhouselaw8_awake  : Option (((Bool × Unit) × Unit)) :=
  some ((true, ()), ())
theorem B_etchhouselaw8_awake_eq (n : Nat)  : bodyE ty T_etchhouselaw8_awake n I_etchhouselaw8_awake () = B_etchhouselaw8_awake  := by kernel_rfl
def S_etchhouselaw8_awake  : Bool := true
theorem ok_etchhouselaw8_awake  (hok : OkA I_etchhouselaw8_awake.args ()) : ∃ n, bodyE ty T_etchhouselaw8_awake n I_etchhouselaw8_awake () = some ((S_etchhouselaw8_awake, ()), ()) := ⟨0, by rw [B_etchhouselaw8_awake_eq]; rfl⟩
noncomputable def E_etchhouselaw8_awake : Entry Try.prog := Entry.of tok T_etchhouselaw8_awake I_etchhouselaw8_awake it_etchhouselaw8_awake (fun () => some ((S_etchhouselaw8_awake, ()), ())) (fun () r hok h => by cases h; exact ok_etchhouselaw8_awake  hok)

end Go.Proofs.Ytlibmodfpkhdpaa
namespace Go.Proofs.Ytlibmodfpkhdpaa
open Go Go.VM
/-! ### etchhouse.etchhouselaw8.DrillNearMatchesSpec -/
noncomputable def I_etchhouselaw8_DrillNearMatchesSpec : Inst := ⟨5, Try.f5, .two (.reg []) (.two (.reg [(1, 0)]) (.two (.reg [(1, 1)]) (.two (.two (.reg [(6, 2)]) (.two (.two (.reg []) (.leaf)) (.leaf))) (.two (.reg [(2, 3)]) (.two (.reg [(2, 4)]) (.two (.reg [(6, 5), (9, 6)]) (.leaf))))))), (.cons (.pv (.sl (.pair (.pair i (.pair i .unit)) (.pair i (.pair i (.pair .bool .unit)))))) (.cons (.pv i) .nil)), (.cons .flat .bool .nil)⟩
theorem it_etchhouselaw8_DrillNearMatchesSpec : InTab Try.prog I_etchhouselaw8_DrillNearMatchesSpec := ⟨Try.func5, by kernel_rfl, rfl⟩
noncomputable def T_etchhouselaw8_DrillNearMatchesSpec : Nat → Entry Try.prog := nth (Entry.no Try.f0) [E_drill_Repeated, E_etchhouseref8_Repeated, E_slices_Equal_int_int, E_drill_Near, E_etchhouseref8_Near, E_slices_Equal_etchhouse_api_Pair_etchhouse_api_Pair, E_etchhouselaw8_awake]
noncomputable def B_etchhouselaw8_DrillNearMatchesSpec (x0 : List ((Int × (Int × Unit)) × (Int × (Int × (Bool × Unit))))) (x1 : Int) : Option (((Bool × Unit) × (Unit × (Unit × Unit)))) :=
  (bif (!(decide (((S_RepP x0).2 = (S_RepR x0).2)))) then
    some ((false, ()), ((), ((), ())))
  else
    (bif (!(decide (((S_RepP x0).1 = (S_RepR x0).1)))) then
      some ((false, ()), ((), ((), ())))
    else
      (bif decide (((S_NearP x0 x1).2 = (S_NearR x0 x1).2)) then
        (bif decide (((S_NearP x0 x1).1 = (S_NearR x0 x1).1)) then
          some ((S_etchhouselaw8_awake, ()), ((), ((), ())))
        else
          some ((false, ()), ((), ((), ()))))
      else
        some ((false, ()), ((), ((), ()))))))
theorem B_etchhouselaw8_DrillNearMatchesSpec_eq (n : Nat) (x0 : List ((Int × (Int × Unit)) × (Int × (Int × (Bool × Unit))))) (x1 : Int) : bodyE ty T_etchhouselaw8_DrillNearMatchesSpec n I_etchhouselaw8_DrillNearMatchesSpec (x0, (x1, ())) = B_etchhouselaw8_DrillNearMatchesSpec x0 x1 := by kernel_rfl
noncomputable def E_etchhouselaw8_DrillNearMatchesSpec : Entry Try.prog := Entry.of tok T_etchhouselaw8_DrillNearMatchesSpec I_etchhouselaw8_DrillNearMatchesSpec it_etchhouselaw8_DrillNearMatchesSpec (fun x => B_etchhouselaw8_DrillNearMatchesSpec x.1 x.2.1) (fun (a0, a1, ()) r _ h => ⟨0, (B_etchhouselaw8_DrillNearMatchesSpec_eq 0 a0 a1).trans h⟩)

end Go.Proofs.Ytlibmodfpkhdpaa
namespace Go.Proofs.Ytlibmodfpkhdpaa
open Go Go.VM
namespace LDrillNearMatchesSpec
theorem chk_same (l : List Hole) : S_chkHR l = S_chkH l := rfl
theorem pt_range {p : Pt} (h : S_isPt p = true) : inR p := by
  obtain ⟨a, b, _⟩ := p
  simp only [S_isPt, S_within, Bool.and_eq_true, decide_eq_true_eq] at h
  exact ⟨h.1.1, h.1.2, h.2.1, h.2.2⟩
theorem apart_abs {a b : Int} (ha : -1000000 ≤ a ∧ a ≤ 1000000) (hb : -1000000 ≤ b ∧ b ≤ 1000000) : S_apart a b = S_abs (wrapI .i64 (a - b)) := by
  unfold S_apart S_abs
  rw [wrap64 (n := a - b) (by omega) (by omega), wrap64 (n := b - a) (by omega) (by omega), wrap64 (n := 0 - (a - b)) (by omega) (by omega)]
  rw [show 0 - (a - b) = b - a by omega]
theorem gap_between {a b : Hole} (ha : inR a.1) (hb : inR b.1) : S_gap a b = S_etchhouseref8_between a b := by
  unfold S_gap S_etchhouseref8_between
  rw [apart_abs (a := a.1.1) (b := b.1.1) ⟨ha.1, ha.2.1⟩ ⟨hb.1, hb.2.1⟩, apart_abs (a := a.1.2.1) (b := b.1.2.1) ⟨ha.2.2.1, ha.2.2.2⟩ ⟨hb.2.2.1, hb.2.2.2⟩]
theorem rep_same (l : List Hole) : S_rep l = S_repR l := by
  unfold S_rep S_repR
  refine foldI_congr l 0 _ fun a ha i s => ?_
  simp only [repF, repFR]
  have : (fun b : Hole => decide (a.1 = b.1)) = fun b => decide (b.1 = a.1) := by
    funext b; rw [Bool.eq_iff_iff]; simp only [decide_eq_true_eq]; exact ⟨Eq.symm, Eq.symm⟩
  rw [this]
theorem near_same {l : List Hole} (below : Int) (h : ∀ a ∈ l, inR a.1) : S_near S_gap l below = S_near S_etchhouseref8_between l below := by
  unfold S_near
  refine foldI_congr l 0 _ fun a ha i s => ?_
  refine foldI_congr _ _ _ fun b hb k o => ?_
  unfold nearF
  rw [gap_between (h a ha) (h b (List.mem_of_mem_drop hb))]
theorem law (x0 : List Hole) (x1 : Int) : B_etchhouselaw8_DrillNearMatchesSpec x0 x1 = some ((true, ()), ((), ((), ()))) := by
  have hR : S_RepP x0 = S_RepR x0 := by
    unfold S_RepP S_RepR
    rw [chk_same, rep_same]
  have hN : S_NearP x0 x1 = S_NearR x0 x1 := by
    unfold S_NearP S_NearR
    rw [chk_same]
    cases hc : decide (S_chkH x0 = 0) with
    | false => rfl
    | true =>
      obtain ⟨_, h2⟩ := chkH_len (of_decide_eq_true hc)
      rw [near_same x1 fun a ha => ?_]
      have := List.all_eq_true.1 h2 a ha
      simp only [S_hole, Bool.and_eq_true] at this
      exact pt_range this.1
  have ha : S_etchhouselaw8_awake = true := by decide
  unfold B_etchhouselaw8_DrillNearMatchesSpec
  rw [hR, hN, ha]
  simp

end LDrillNearMatchesSpec
end Go.Proofs.Ytlibmodfpkhdpaa
