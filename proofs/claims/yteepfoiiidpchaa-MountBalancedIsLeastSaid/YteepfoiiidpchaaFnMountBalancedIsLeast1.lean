/- What the functions that MountBalancedIsLeast reaches compute, part 1; and that the law answers true, for all arguments that a row reads. -/
import Derived.Test.YteepfoiiidpchaaProg
import Derived.Test.YteepfoiiidpchaaVmMountBalancedIsLeast4
namespace Go.Proofs.Yteepfoiiidpchaa
open Go Go.VM
abbrev i : Ty := .int .i64
def tab : List (Nat × Ty) := [(22, (.sl i)), (3, i), (4, .bool), (23, i), (39, (.sl (.sl .bool))), (29, (.sl .bool))]
def ty : Types := mkTypes tab []
theorem tok : TyOK Try.prog ty := tyok_of_check (by kernel_rfl)
end Go.Proofs.Yteepfoiiidpchaa
namespace Go.Proofs.Yteepfoiiidpchaa
open Go Go.VM
/-! ### etchhouse.mount.within -/
noncomputable def I_mount_within : Inst := ⟨17, Try.f17, .two (.reg []) (.two (.reg []) (.leaf)), (.cons (.pv i) (.cons (.pv i) (.cons (.pv i) .nil))), (.cons .flat .bool .nil)⟩
theorem it_mount_within : InTab Try.prog I_mount_within := ⟨Try.func17, by kernel_rfl, rfl⟩
noncomputable def T_mount_within : Nat → Entry Try.prog := nth (Entry.no Try.f0) []
noncomputable def B_mount_within (x0 : Int) (x1 : Int) (x2 : Int) : Option (((Bool × Unit) × (Unit × (Unit × (Unit × Unit))))) :=
  (bif decide ((x1 ≤ x0)) then
    some ((decide ((x0 ≤ x2)), ()), ((), ((), ((), ()))))
  else
    some ((false, ()), ((), ((), ((), ())))))
theorem B_mount_within_eq (n : Nat) (x0 : Int) (x1 : Int) (x2 : Int) : bodyE ty T_mount_within n I_mount_within (x0, (x1, (x2, ()))) = B_mount_within x0 x1 x2 := by kernel_rfl
theorem ok_mount_within (x0 x1 x2 : Int) (hok : OkA I_mount_within.args (x0, x1, x2, ())) : ∃ n, bodyE ty T_mount_within n I_mount_within (x0, x1, x2, ()) = some ((S_within x0 x1 x2, ()), ((), (), (), ())) := ⟨0, by
  rw [B_mount_within_eq]; unfold B_mount_within S_within; cases decide (x1 ≤ x0) <;> rfl⟩
noncomputable def E_mount_within : Entry Try.prog := Entry.of tok T_mount_within I_mount_within it_mount_within (fun (x0, x1, x2, ()) => some ((S_within x0 x1 x2, ()), ((), (), (), ()))) (fun (x0, x1, x2, ()) r hok h => by cases h; exact ok_mount_within x0 x1 x2 hok)

end Go.Proofs.Yteepfoiiidpchaa
namespace Go.Proofs.Yteepfoiiidpchaa
open Go Go.VM
/-! ### slices.Clone[[]bool,bool] -/
noncomputable def I_slices_Clone_bool_bool : Inst := ⟨18, Try.f18, .two (.reg []) (.two (.two (.reg []) (.two (.two (.reg []) (.leaf)) (.leaf))) (.two (.reg []) (.leaf))), (.cons (.pv (.sl .bool)) .nil), (.cons (.own .flat) (.sl .bool) .nil)⟩
theorem it_slices_Clone_bool_bool : InTab Try.prog I_slices_Clone_bool_bool := ⟨Try.func18, by kernel_rfl, rfl⟩
noncomputable def T_slices_Clone_bool_bool : Nat → Entry Try.prog := nth (Entry.no Try.f0) []
noncomputable def B_slices_Clone_bool_bool (x0 : List Bool) : Option (((List Bool × Unit) × (Unit × Unit))) :=
  (bif x0.isEmpty then
    unk (fun b1 =>
      (bif b1 then
        some (([], ()), ((), ()))
      else
        (bif decide (((0 + x0.length) ≤ 4294967296)) then
          some ((x0, ()), ((), ()))
        else
          none)))
  else
    (bif decide (((0 + x0.length) ≤ 4294967296)) then
      some ((x0, ()), ((), ()))
    else
      none))
theorem B_slices_Clone_bool_bool_eq (n : Nat) (x0 : List Bool) : bodyE ty T_slices_Clone_bool_bool n I_slices_Clone_bool_bool (x0, ()) = B_slices_Clone_bool_bool x0 := by kernel_rfl
def S_cloneB (x0 : List Bool) : Option ((List Bool × Unit) × Unit × Unit) := bif decide (0 + x0.length ≤ 4294967296) then some ((x0, ()), ((), ())) else none
theorem cloneB_eq {p : List Bool} (h : p.length ≤ 30001) : S_cloneB p = some ((p, ()), (), ()) := by
  unfold S_cloneB
  rw [decide_eq_true (by omega), cond_true]
theorem ok_slices_Clone_bool_bool (x0 : List Bool) (hok : OkA I_slices_Clone_bool_bool.args (x0, ())) (r) (h : S_cloneB x0 = some r) : ∃ n, bodyE ty T_slices_Clone_bool_bool n I_slices_Clone_bool_bool (x0, ()) = some r := ⟨0, by
  refine (B_slices_Clone_bool_bool_eq 0 x0).trans (Eq.trans ?_ h)
  unfold B_slices_Clone_bool_bool S_cloneB
  cases x0 with
  | nil =>
    simp only [List.isEmpty_nil, cond_true]
    unfold unk
    exact if_pos rfl
  | cons a l => rfl⟩
noncomputable def E_slices_Clone_bool_bool : Entry Try.prog := Entry.of tok T_slices_Clone_bool_bool I_slices_Clone_bool_bool it_slices_Clone_bool_bool (fun (x0, ()) => S_cloneB x0) (fun (x0, ()) r hok h => ok_slices_Clone_bool_bool x0 hok r h)

end Go.Proofs.Yteepfoiiidpchaa
namespace Go.Proofs.Yteepfoiiidpchaa
open Go Go.VM
/-! ### etchhouse.mount.Balanced$1 -/
noncomputable def I_mount_Balanced_1_io_io_io_io : Inst := ⟨19, Try.f19, .two (.reg []) (.two (.two (.reg []) (.one (.loop ⟨[(15, .pv i)], [], [0, 3, 4, 13, 14], [1030, 1040, 13, 1010, 1020]⟩ (.two (.reg []) (.two (.two (.leaf) (.leaf)) (.two (.one (.two (.reg []) (.two (.reg []) (.two (.two (.reg []) (.leaf)) (.leaf))))) (.reg []))))))) (.two (.reg []) (.leaf))), (.cons (.pv i) (.cons (.io .flat i) (.cons (.io .flat i) (.cons (.io (.own (.own .flat)) (.sl (.sl .bool))) (.cons (.io .flat i) .nil))))), (.cons .flat .bool .nil)⟩
theorem it_mount_Balanced_1_io_io_io_io : InTab Try.prog I_mount_Balanced_1_io_io_io_io := ⟨Try.func19, by kernel_rfl, rfl⟩
noncomputable def T_mount_Balanced_1_io_io_io_io : Nat → Entry Try.prog := nth (Entry.no Try.f0) []
noncomputable def B_mount_Balanced_1_io_io_io_io (n : Nat) (x0 : Int) (x1 : Int) (x2 : Int) (x3 : List (List Bool)) (x4 : Int) : Option (((Bool × Unit) × (Unit × (Int × (Int × (List (List Bool) × (Int × Unit))))))) :=
  loopN (fun rec1 => fun
  | ((v1aa, ()), ()) =>
    (bif decide ((v1aa < 2)) then
      (bif inB v1aa 2 then
        (bif decide ((x0 ≤ ([x1, wrapI .i64 (x2 - x1)]).getD v1aa.toNat 0)) then
          (bif inB (wrapI .i64 (x4 + 1)) x3.length then
            (bif inB (wrapI .i64 (([x1, wrapI .i64 (x2 - x1)]).getD v1aa.toNat 0 - x0)) ((x3.getD ((wrapI .i64 (x4 + 1)).toNat) []).length) then
              (bif (x3.getD ((wrapI .i64 (x4 + 1)).toNat) []).getD ((wrapI .i64 (([x1, wrapI .i64 (x2 - x1)]).getD v1aa.toNat 0 - x0)).toNat) false then
                some ((true, ()), ((), (x1, (x2, (x3, (x4, ()))))))
              else
                rec1 ((wrapI .i64 (v1aa + 1), ()), ()))
            else
              none)
          else
            none)
        else
          rec1 ((wrapI .i64 (v1aa + 1), ()), ()))
      else
        none)
    else
      some ((false, ()), ((), (x1, (x2, (x3, (x4, ()))))))))
  n ((0, ()), ())
theorem B_mount_Balanced_1_io_io_io_io_eq (n : Nat) (x0 : Int) (x1 : Int) (x2 : Int) (x3 : List (List Bool)) (x4 : Int) : bodyE ty T_mount_Balanced_1_io_io_io_io n I_mount_Balanced_1_io_io_io_io (x0, (x1, (x2, (x3, (x4, ()))))) = B_mount_Balanced_1_io_io_io_io n x0 x1 x2 x3 x4 := by kernel_rfl
def S_chk1 (x0 x : Int) (x3 : List (List Bool)) (x4 : Int) : Option Bool :=
  bif decide (x0 ≤ x) then
    (bif inB (wrapI .i64 (x4 + 1)) x3.length then
      (bif inB (wrapI .i64 (x - x0)) ((x3.getD ((wrapI .i64 (x4 + 1)).toNat) []).length) then
        some ((x3.getD ((wrapI .i64 (x4 + 1)).toNat) []).getD ((wrapI .i64 (x - x0)).toNat) false)
      else none)
    else none)
  else some false
def S_reach (x0 x1 x2 : Int) (x3 : List (List Bool)) (x4 : Int) : Option Bool :=
  (S_chk1 x0 x1 x3 x4).bind fun b => bif b then some true else S_chk1 x0 (wrapI .i64 (x2 - x1)) x3 x4
abbrev T_reachR := (Bool × Unit) × Unit × Int × Int × List (List Bool) × Int × Unit
def S_reachR (x0 x1 x2 : Int) (x3 : List (List Bool)) (x4 : Int) : Option T_reachR := (S_reach x0 x1 x2 x3 x4).map (fun b => ((b, ()), ((), x1, x2, x3, x4, ())))
theorem reach_eq (x0 x1 x2 : Int) (x3 : List (List Bool)) (x4 : Int) : B_mount_Balanced_1_io_io_io_io 3 x0 x1 x2 x3 x4 = (S_reach x0 x1 x2 x3 x4).map (fun b => ((b, ()), ((), x1, x2, x3, x4, ()))) := by
  unfold B_mount_Balanced_1_io_io_io_io S_reach S_chk1
  rw [loopN_succ]
  have w1 : wrapI .i64 (0 + 1) = 1 := rfl
  have w2 : wrapI .i64 (1 + 1) = 2 := rfl
  have e0 : inB (0 : Int) 2 = true := rfl
  have e1 : inB (1 : Int) 2 = true := rfl
  have d0 : decide ((0 : Int) < 2) = true := rfl
  have d1 : decide ((1 : Int) < 2) = true := rfl
  have d2 : decide ((2 : Int) < 2) = false := rfl
  have g0 : ([x1, wrapI .i64 (x2 - x1)] : List Int).getD (0 : Int).toNat 0 = x1 := rfl
  have g1 : ([x1, wrapI .i64 (x2 - x1)] : List Int).getD (1 : Int).toNat 0 = wrapI .i64 (x2 - x1) := rfl
  simp only [w1, e0, d0, g0, cond_true]
  rw [loopN_succ, loopN_succ]
  simp only [w2, e1, d1, d2, g1, cond_true, cond_false]
  generalize wrapI .i64 (x2 - x1) = y
  cases decide (x0 ≤ x1) <;> cases decide (x0 ≤ y) <;> cases inB (wrapI .i64 (x4 + 1)) x3.length <;> cases inB (wrapI .i64 (x1 - x0)) ((x3.getD ((wrapI .i64 (x4 + 1)).toNat) []).length) <;> cases inB (wrapI .i64 (y - x0)) ((x3.getD ((wrapI .i64 (x4 + 1)).toNat) []).length) <;> cases ((x3.getD ((wrapI .i64 (x4 + 1)).toNat) []).getD ((wrapI .i64 (x1 - x0)).toNat) false) <;> cases ((x3.getD ((wrapI .i64 (x4 + 1)).toNat) []).getD ((wrapI .i64 (y - x0)).toNat) false) <;> rfl
theorem ok_mount_Balanced_1_io_io_io_io (x0 x1 x2 : Int) (x3 : List (List Bool)) (x4 : Int) (hok : OkA I_mount_Balanced_1_io_io_io_io.args (x0, x1, x2, x3, x4, ())) (r) (h : S_reachR x0 x1 x2 x3 x4 = some r) : ∃ n, bodyE ty T_mount_Balanced_1_io_io_io_io n I_mount_Balanced_1_io_io_io_io (x0, x1, x2, x3, x4, ()) = some r := ⟨3, (B_mount_Balanced_1_io_io_io_io_eq ..).trans ((reach_eq ..).trans h)⟩
noncomputable def E_mount_Balanced_1_io_io_io_io : Entry Try.prog := Entry.of tok T_mount_Balanced_1_io_io_io_io I_mount_Balanced_1_io_io_io_io it_mount_Balanced_1_io_io_io_io (fun (x0, x1, x2, x3, x4, ()) => S_reachR x0 x1 x2 x3 x4) (fun (x0, x1, x2, x3, x4, ()) r hok h => ok_mount_Balanced_1_io_io_io_io x0 x1 x2 x3 x4 hok r h)

end Go.Proofs.Yteepfoiiidpchaa
namespace Go.Proofs.Yteepfoiiidpchaa
open Go Go.VM
/-! ### etchhouse.mount.Balanced -/
noncomputable def I_mount_Balanced : Inst := ⟨7, Try.f7, .two (.reg []) (.two (.two (.reg []) (.two (.two (.reg []) (.leaf)) (.leaf))) (.two (.reg []) (.two (.two (.reg []) (.one (.loop ⟨[(22, .pv i)], [(5, ⟨.flat, i, true, false⟩)], [0, 5, 20, 21], []⟩ (.two (.reg []) (.two (.two (.leaf) (.leaf)) (.two (.one (.two (.reg []) (.two (.two (.reg [(1, 0)]) (.two (.two (.reg []) (.leaf)) (.leaf))) (.reg [])))) (.reg []))))))) (.two (.two (.reg []) (.two (.two (.reg []) (.leaf)) (.leaf))) (.two (.reg []) (.two (.draw [] [0, 1, 2, 3, 4, 5, 6, 7] [8, 5]) (.two (.reg []) (.two (.two (.reg []) (.one (.loop ⟨[(9, .pv i)], [(8, ⟨(.own (.own .flat)), (.sl (.sl .bool)), true, false⟩)], [0, 5, 8], [5]⟩ (.two (.two (.reg []) (.two (.leaf) (.leaf))) (.two (.one (.two (.draw [(7, 1)] [0, 1, 2, 3, 4, 5, 6, 7, 8, 9] [8]) (.two (.reg []) (.one (.loop ⟨[(10, .pv i)], [(8, ⟨(.own (.own .flat)), (.sl (.sl .bool)), true, false⟩)], [0, 5, 8, 9], [5]⟩ (.two (.two (.reg []) (.two (.leaf) (.leaf))) (.two (.one (.draw [] [0, 1, 2, 3, 4, 5, 6, 7, 8, 9, 10, 11, 12, 13, 14, 15, 16, 17, 18, 19, 20, 21, 22, 23, 24, 25, 26, 27, 28] [8])) (.reg [])))))))) (.reg [])))))) (.two (.reg []) (.two (.two (.reg []) (.one (.loop ⟨[(12, .pv i)], [(11, ⟨.flat, i, true, false⟩)], [0, 5, 8, 11], [5, 8]⟩ (.two (.two (.reg []) (.two (.leaf) (.leaf))) (.two (.one (.two (.draw [] [0, 1, 2, 3, 4, 5, 6, 7, 8, 9] [8]) (.two (.reg []) (.leaf)))) (.reg [])))))) (.two (.draw [] [1, 2, 3, 0, 4, 5] []) (.two (.two (.reg []) (.one (.loop ⟨[(13, .st (.at (.rf 13 []))), (14, .pv i), (15, .st (.at (.ptr 15 [])))], [(13, ⟨(.own .flat), (.sl i), false, false⟩), (15, ⟨.flat, i, true, false⟩), (5, ⟨.flat, i, true, false⟩), (8, ⟨(.own (.own .flat)), (.sl (.sl .bool)), true, false⟩), (11, ⟨.flat, i, true, false⟩)], [0, 5, 8, 11], []⟩ (.two (.two (.reg []) (.two (.leaf) (.leaf))) (.two (.one (.two (.reg []) (.two (.reg [(7, 2)]) (.two (.draw [] [0, 1, 4, 5, 6, 7, 8, 9, 2, 3, 10, 11] [15, 13]) (.leaf))))) (.two (.two (.reg []) (.reg [])) (.reg []))))))) (.two (.draw [] [0, 1, 2, 3, 4] [13, 11]) (.leaf)))))))))))))), (.cons (.pv (.sl i)) .nil), (.cons (.own .flat) (.sl i) (.cons .flat i (.cons .flat i .nil)))⟩
theorem it_mount_Balanced : InTab Try.prog I_mount_Balanced := ⟨Try.func7, by kernel_rfl, rfl⟩
noncomputable def T_mount_Balanced : Nat → Entry Try.prog := nth (Entry.no Try.f0) [E_mount_within, E_slices_Clone_bool_bool, E_mount_Balanced_1_io_io_io_io]
noncomputable def B_mount_Balanced (n : Nat) (x0 : List Int) : Option (((List Int × (Int × (Int × Unit))) × (Unit × Unit))) :=
  (bif decide ((30 < ((x0.length : Nat) : Int))) then
    some (([], (0, (2, ()))), ((), ()))
  else
    loopN (fun rec1 => fun
    | ((v1aa, ()), (v1ba, ())) =>
      (bif decide ((v1aa < ((x0.length : Nat) : Int))) then
        (bif inB v1aa x0.length then
          (bif (!(S_within (x0.getD v1aa.toNat 0) 0 1000)) then
            some (([], (0, (1, ()))), ((), ()))
          else
            rec1 ((wrapI .i64 (v1aa + 1), ()), (wrapI .i64 (v1ba + x0.getD v1aa.toNat 0), ())))
        else
          none)
      else
        (bif decide ((((x0.length : Nat) : Int) = 0)) then
          some (([], (0, (0, ()))), ((), ()))
        else
          (bif ((decide ((0 ≤ wrapI .i64 (((x0.length : Nat) : Int) + 1))) && decide ((wrapI .i64 (((x0.length : Nat) : Int) + 1) ≤ wrapI .i64 (((x0.length : Nat) : Int) + 1)))) && decide ((wrapI .i64 (((x0.length : Nat) : Int) + 1) ≤ 4294967296))) then
            (bif ((decide ((0 ≤ wrapI .i64 (v1ba + 1))) && decide ((wrapI .i64 (v1ba + 1) ≤ wrapI .i64 (v1ba + 1)))) && decide ((wrapI .i64 (v1ba + 1) ≤ 4294967296))) then
              (bif inB ((x0.length : Nat) : Int) ((List.replicate (α := List Bool) ((wrapI .i64 (((x0.length : Nat) : Int) + 1)).toNat) []).length) then
                (bif inB ((x0.length : Nat) : Int) (((List.replicate (α := List Bool) ((wrapI .i64 (((x0.length : Nat) : Int) + 1)).toNat) []).set (((x0.length : Nat) : Int).toNat) (List.replicate (α := Bool) ((wrapI .i64 (v1ba + 1)).toNat) false)).length) then
                  (bif inB 0 ((((List.replicate (α := List Bool) ((wrapI .i64 (((x0.length : Nat) : Int) + 1)).toNat) []).set (((x0.length : Nat) : Int).toNat) (List.replicate (α := Bool) ((wrapI .i64 (v1ba + 1)).toNat) false)).getD (((x0.length : Nat) : Int).toNat) []).length) then
                    loopN (fun rec2 => fun
                    | ((v2aa, ()), (v2ba, ())) =>
                      (bif decide ((0 ≤ v2aa)) then
                        (bif inB (wrapI .i64 (v2aa + 1)) v2ba.length then
                          ((S_cloneB (v2ba.getD ((wrapI .i64 (v2aa + 1)).toNat) [])).bind fun ((r3aa, ()), ((), ())) =>
                          (bif inB v2aa v2ba.length then
                            (bif inB v2aa x0.length then
                              loopN (fun rec4 => fun
                              | ((v4aa, ()), (v4ba, ())) =>
                                (bif decide ((v4aa ≤ v1ba)) then
                                  (bif inB v2aa v4ba.length then
                                    (bif inB v2aa v4ba.length then
                                      (bif inB v4aa ((v4ba.getD v2aa.toNat []).length) then
                                        (bif (v4ba.getD v2aa.toNat []).getD v4aa.toNat false then
                                          (bif inB v4aa ((v4ba.getD v2aa.toNat []).length) then
                                            rec4 ((wrapI .i64 (v4aa + 1), ()), (v4ba.set v2aa.toNat ((v4ba.getD v2aa.toNat []).set v4aa.toNat true), ()))
                                          else
                                            none)
                                        else
                                          (bif inB (wrapI .i64 (v2aa + 1)) v4ba.length then
                                            (bif inB v2aa x0.length then
                                              (bif inB (wrapI .i64 (v4aa - x0.getD v2aa.toNat 0)) ((v4ba.getD ((wrapI .i64 (v2aa + 1)).toNat) []).length) then
                                                (bif inB v4aa ((v4ba.getD v2aa.toNat []).length) then
                                                  rec4 ((wrapI .i64 (v4aa + 1), ()), (v4ba.set v2aa.toNat ((v4ba.getD v2aa.toNat []).set v4aa.toNat ((v4ba.getD ((wrapI .i64 (v2aa + 1)).toNat) []).getD ((wrapI .i64 (v4aa - x0.getD v2aa.toNat 0)).toNat) false)), ()))
                                                else
                                                  none)
                                              else
                                                none)
                                            else
                                              none)
                                          else
                                            none))
                                      else
                                        none)
                                    else
                                      none)
                                  else
                                    none)
                                else
                                  rec2 ((wrapI .i64 (v2aa - 1), ()), (v4ba, ()))))
                              n ((x0.getD v2aa.toNat 0, ()), (v2ba.set v2aa.toNat r3aa, ()))
                            else
                              none)
                          else
                            none))
                        else
                          none)
                      else
                        (bif inB 0 x0.length then
                          loopN (fun rec5 => fun
                          | ((v5aa, ()), (v5ba, ())) =>
                            (bif decide ((v5aa ≤ v1ba)) then
                              (bif inB 1 v2ba.length then
                                (bif inB 0 x0.length then
                                  (bif inB (wrapI .i64 (v5aa - x0.getD 0 0)) ((v2ba.getD 1 []).length) then
                                    (bif (v2ba.getD 1 []).getD ((wrapI .i64 (v5aa - x0.getD 0 0)).toNat) false then
                                      rec5 ((wrapI .i64 (v5aa + 1), ()), ((bif decide (((bif decide ((v5aa < wrapI .i64 (v1ba - v5aa))) then wrapI .i64 (v1ba - v5aa) else v5aa) < v5ba)) then (bif decide ((v5aa < wrapI .i64 (v1ba - v5aa))) then wrapI .i64 (v1ba - v5aa) else v5aa) else v5ba), ()))
                                    else
                                      rec5 ((wrapI .i64 (v5aa + 1), ()), (v5ba, ())))
                                  else
                                    none)
                                else
                                  none)
                              else
                                none)
                            else
                              (bif inB 0 x0.length then
                                loopN (fun rec6 => fun
                                | ((v6aa, ()), (v6ba, (v6bba, (v6bbba, (v6bbbba, (v6bbbbba, ())))))) =>
                                  (bif (!(decide (((bif decide ((v6aa < wrapI .i64 (v6bbba - v6aa))) then wrapI .i64 (v6bbba - v6aa) else v6aa) = v6bbbbba)))) then
                                    (bif inB v6bba x0.length then
                                      ((S_reachR (wrapI .i64 (v6aa + x0.getD v6bba.toNat 0)) v6bbbbba v6bbba v6bbbba v6bba).bind fun ((r7aa, ()), ((), (r7bba, (r7bbba, (r7bbbba, (r7bbbbba, ())))))) =>
                                      (bif r7aa then
                                        (bif inB r7bbbbba x0.length then
                                          (bif decide (((v6ba.length + 1) ≤ 4294967296)) then
                                            rec6 ((wrapI .i64 (v6aa + x0.getD r7bbbbba.toNat 0), ()), ((v6ba ++ [r7bbbbba]), (wrapI .i64 (r7bbbbba + 1), (r7bbba, (r7bbbba, (r7bba, ()))))))
                                          else
                                            none)
                                        else
                                          none)
                                      else
                                        rec6 ((v6aa, ()), (v6ba, (wrapI .i64 (r7bbbbba + 1), (r7bbba, (r7bbbba, (r7bba, ()))))))))
                                    else
                                      none)
                                  else
                                    some ((v6ba, (v6bbbbba, (0, ()))), ((), ()))))
                                n ((x0.getD 0 0, ()), ([0], (1, (v1ba, (v2ba, (v5ba, ()))))))
                              else
                                none)))
                          n ((x0.getD 0 0, ()), (v1ba, ()))
                        else
                          none)))
                    n ((wrapI .i64 (((x0.length : Nat) : Int) - 1), ()), (((List.replicate (α := List Bool) ((wrapI .i64 (((x0.length : Nat) : Int) + 1)).toNat) []).set (((x0.length : Nat) : Int).toNat) (List.replicate (α := Bool) ((wrapI .i64 (v1ba + 1)).toNat) false)).set (((x0.length : Nat) : Int).toNat) ((((List.replicate (α := List Bool) ((wrapI .i64 (((x0.length : Nat) : Int) + 1)).toNat) []).set (((x0.length : Nat) : Int).toNat) (List.replicate (α := Bool) ((wrapI .i64 (v1ba + 1)).toNat) false)).getD (((x0.length : Nat) : Int).toNat) []).set 0 true), ()))
                  else
                    none)
                else
                  none)
              else
                none)
            else
              none)
          else
            none))))
    n ((0, ()), (0, ())))
theorem B_mount_Balanced_eq (n : Nat) (x0 : List Int) : bodyE ty T_mount_Balanced n I_mount_Balanced (x0, ()) = B_mount_Balanced n x0 := by kernel_rfl
noncomputable def K_chooseM (n : Nat) (x0 : List Int) (v1ba : Int) (v2ba : List (List Bool)) (v5ba : Int) : Option ((List Int × (Int × (Int × Unit))) × (Unit × Unit)) :=
  (bif inB 0 x0.length then
                                loopN (fun rec6 => fun
                                | ((v6aa, ()), (v6ba, (v6bba, (v6bbba, (v6bbbba, (v6bbbbba, ())))))) =>
                                  (bif (!(decide (((bif decide ((v6aa < wrapI .i64 (v6bbba - v6aa))) then wrapI .i64 (v6bbba - v6aa) else v6aa) = v6bbbbba)))) then
                                    (bif inB v6bba x0.length then
                                      ((S_reachR (wrapI .i64 (v6aa + x0.getD v6bba.toNat 0)) v6bbbbba v6bbba v6bbbba v6bba).bind fun ((r7aa, ()), ((), (r7bba, (r7bbba, (r7bbbba, (r7bbbbba, ())))))) =>
                                      (bif r7aa then
                                        (bif inB r7bbbbba x0.length then
                                          (bif decide (((v6ba.length + 1) ≤ 4294967296)) then
                                            rec6 ((wrapI .i64 (v6aa + x0.getD r7bbbbba.toNat 0), ()), ((v6ba ++ [r7bbbbba]), (wrapI .i64 (r7bbbbba + 1), (r7bbba, (r7bbbba, (r7bba, ()))))))
                                          else
                                            none)
                                        else
                                          none)
                                      else
                                        rec6 ((v6aa, ()), (v6ba, (wrapI .i64 (r7bbbbba + 1), (r7bbba, (r7bbbba, (r7bba, ()))))))))
                                    else
                                      none)
                                  else
                                    some ((v6ba, (v6bbbbba, (0, ()))), ((), ()))))
                                n ((x0.getD 0 0, ()), ([0], (1, (v1ba, (v2ba, (v5ba, ()))))))
                              else
                                none)
noncomputable def K_bestM (n : Nat) (x0 : List Int) (v1ba : Int) (v2ba : List (List Bool)) : Option ((List Int × (Int × (Int × Unit))) × (Unit × Unit)) :=
  (bif inB 0 x0.length then
                          loopN (fun rec5 => fun
                          | ((v5aa, ()), (v5ba, ())) =>
                            (bif decide ((v5aa ≤ v1ba)) then
                              (bif inB 1 v2ba.length then
                                (bif inB 0 x0.length then
                                  (bif inB (wrapI .i64 (v5aa - x0.getD 0 0)) ((v2ba.getD 1 []).length) then
                                    (bif (v2ba.getD 1 []).getD ((wrapI .i64 (v5aa - x0.getD 0 0)).toNat) false then
                                      rec5 ((wrapI .i64 (v5aa + 1), ()), ((bif decide (((bif decide ((v5aa < wrapI .i64 (v1ba - v5aa))) then wrapI .i64 (v1ba - v5aa) else v5aa) < v5ba)) then (bif decide ((v5aa < wrapI .i64 (v1ba - v5aa))) then wrapI .i64 (v1ba - v5aa) else v5aa) else v5ba), ()))
                                    else
                                      rec5 ((wrapI .i64 (v5aa + 1), ()), (v5ba, ())))
                                  else
                                    none)
                                else
                                  none)
                              else
                                none)
                            else
                              K_chooseM n x0 v1ba v2ba v5ba))
                          n ((x0.getD 0 0, ()), (v1ba, ()))
                        else
                          none)
theorem inB_0 {n : Nat} (h : 0 < n) : inB 0 n = true := inB_nat (i := 0) h
theorem reachN_eq {l : List Int} {N best i s : Nat} (hl : l.length ≤ 30) (hN : N ≤ 30000) (hb : best ≤ N) (hi : i < l.length) (hs : s ≤ 60000) :
    S_reachR (s : Int) (best : Int) (N : Int) (tabL N l) (i : Int) = some ((reachN (rowL N (l.drop (i + 1))) N best s, ()), ((), ((best : Int), ((N : Int), (tabL N l, ((i : Int), ())))))) := by
  have w1 : wrapI .i64 ((i : Int) + 1) = ((i + 1 : Nat) : Int) := (wrap64 (by omega) (by omega)).trans (by omega)
  have w2 : wrapI .i64 ((N : Int) - (best : Int)) = ((N - best : Nat) : Int) := (wrap64 (by omega) (by omega)).trans (by omega)
  have key : ∀ t : Nat, t ≤ N → S_chk1 (s : Int) (t : Int) (tabL N l) (i : Int) = some (decide (s ≤ t) && (rowL N (l.drop (i + 1))).getD (t - s) false) := by
    intro t ht
    unfold S_chk1
    by_cases h : s ≤ t
    · have w3 : wrapI .i64 ((t : Int) - (s : Int)) = ((t - s : Nat) : Int) := (wrap64 (by omega) (by omega)).trans (by omega)
      rw [decide_eq_true (show (s : Int) ≤ (t : Int) by omega), w1, w3, Int.toNat_natCast, tabL_at (by omega), decide_eq_true h]
      rw [inB_nat (show i + 1 < (tabL N l).length by rw [tabL_length]; omega), inB_nat (show t - s < (rowL N (l.drop (i + 1))).length by rw [rowL_length]; omega)]
      rfl
    · rw [decide_eq_false (show ¬ (s : Int) ≤ (t : Int) by omega), decide_eq_false h]
      rfl
  unfold S_reachR S_reach
  rw [w2, key best hb, key (N - best) (by omega)]
  unfold reachN
  cases decide (s ≤ best) && (rowL N (l.drop (i + 1))).getD (best - s) false <;> cases decide (s ≤ N - best) && (rowL N (l.drop (i + 1))).getD (N - best - s) false <;> rfl
theorem done_eq {N best s : Nat} : decide ((bif decide ((s : Int) < ((N - s : Nat) : Int)) then ((N - s : Nat) : Int) else (s : Int)) = (best : Int)) = doneN N best s := by
  unfold doneN
  by_cases h : s < N - s
  · rw [decide_eq_true h, decide_eq_true (show (s : Int) < ((N - s : Nat) : Int) by omega)]
    exact decide_eq_decide.2 (by simp only [cond_true]; omega)
  · rw [decide_eq_false h, decide_eq_false (show ¬ (s : Int) < ((N - s : Nat) : Int) by omega)]
    exact decide_eq_decide.2 (by simp only [cond_false]; omega)
theorem choose_done {N best s : Nat} (h : doneN N best s = true) : ∀ (r : List Int) (i : Nat) (out : List Int), chooseL N best r i s out = out
  | [], _, _ => rfl
  | a :: r, i, out => by rw [chooseL, h, cond_true]
theorem choose_eq {l : List Int} {N best : Nat} {n : Nat} (hl : l.length ≤ 30) (ha : ∀ a, a ∈ l → 0 ≤ a ∧ a ≤ 1000) (hN : N ≤ 30000) (hb : best ≤ N) (hh : N ≤ 2 * best) (h0 : 0 < l.length) (hr : reachN (rowL N (l.drop 1)) N best l[0].toNat = true) (hn : 40 < n) :
    K_chooseM n l (N : Int) (tabL N l) (best : Int) = some ((chooseL N best (l.drop 1) 1 l[0].toNat [0], (best : Int), 0, ()), ((), ())) := by
  unfold K_chooseM
  rw [inB_0 h0, cond_true]
  have hl0 : l.getD 0 0 = ((l[0].toNat : Nat) : Int) := by
    have := ha _ (List.getElem_mem h0)
    rw [getD_at h0]; omega
  rw [hl0]
  refine loop_meas (fun x => ∃ (i s : Nat) (out : List Int), 1 ≤ i ∧ i ≤ l.length ∧ out.length ≤ i ∧ s ≤ N ∧ reachN (rowL N (l.drop i)) N best s = true ∧ chooseL N best (l.drop i) i s out = chooseL N best (l.drop 1) 1 l[0].toNat [0] ∧ x = (((s : Int), ()), (out, ((i : Int), ((N : Int), (tabL N l, ((best : Int), ()))))))) (fun x => l.length - x.2.2.1.toNat) _ ?_ n _ ⟨1, l[0].toNat, [0], Nat.le_refl _, h0, Nat.le_refl _, reach_le hb hr, hr, rfl, rfl⟩ (by show l.length - _ < n; omega)
  rintro _ ⟨i, s, out, i1, i2, o1, s1, hq, hc, rfl⟩
  have wN : wrapI .i64 ((N : Int) - (s : Int)) = ((N - s : Nat) : Int) := (wrap64 (by omega) (by omega)).trans (by omega)
  cases hd : doneN N best s with
  | true =>
    left
    intro rec
    rw [choose_done hd] at hc
    simp only [wN, done_eq, hd, Bool.not_true, cond_false]
    rw [hc]
  | false =>
    right
    have hi : i < l.length := by
      rcases Nat.lt_or_ge i l.length with h | h
      · exact h
      · have e : i = l.length := by omega
        rw [e, List.drop_length] at hq
        rw [reach_nil hb hh hq] at hd
        cases hd
    have hai := ha _ (List.getElem_mem hi)
    have wi : wrapI .i64 ((i : Int) + 1) = ((i + 1 : Nat) : Int) := (wrap64 (by omega) (by omega)).trans (by omega)
    have ws : wrapI .i64 ((s : Int) + l[i]) = ((s + l[i].toNat : Nat) : Int) := (wrap64 (by omega) (by omega)).trans (by omega)
    have hre := reachN_eq (l := l) (N := N) (best := best) (i := i) (s := s + l[i].toNat) hl hN hb hi (by omega)
    rw [List.drop_eq_getElem_cons hi] at hq hc
    rw [chooseL, hd, cond_false] at hc
    have ho : decide (out.length + 1 ≤ 4294967296) = true := decide_eq_true (by omega)
    cases hR : reachN (rowL N (l.drop (i + 1))) N best (s + l[i].toNat) with
    | true =>
      rw [hR, cond_true] at hc
      refine ⟨_, ⟨i + 1, s + l[i].toNat, out ++ [(i : Int)], by omega, hi, by simp; omega, reach_le hb hR, hR, hc, rfl⟩, ?_, fun rec => ?_⟩
      · show l.length - (((i + 1 : Nat) : Int)).toNat < l.length - ((i : Nat) : Int).toNat
        rw [Int.toNat_natCast, Int.toNat_natCast]; omega
      · simp only [wN, done_eq, hd, Bool.not_false, cond_true, inB_nat hi, getD_lt hi, ws, hre, hR, Option.bind_some, ho, wi]
    | false =>
      rw [hR, cond_false] at hc
      refine ⟨_, ⟨i + 1, s, out, by omega, hi, by omega, s1, reach_skip hb hq hR, hc, rfl⟩, ?_, fun rec => ?_⟩
      · show l.length - (((i + 1 : Nat) : Int)).toNat < l.length - ((i : Nat) : Int).toNat
        rw [Int.toNat_natCast, Int.toNat_natCast]; omega
      · simp only [wN, done_eq, hd, Bool.not_false, cond_true, cond_false, inB_nat hi, getD_lt hi, ws, hre, hR, Option.bind_some, ho, wi]
theorem bestK_eq {l : List Int} {N : Nat} {n : Nat} (hN : N ≤ 30000) (ha : ∀ a, a ∈ l → 0 ≤ a ∧ a ≤ (N : Int)) (h0 : 0 < l.length) (hn : N + 40 < n) :
    K_bestM n l (N : Int) (tabL N l) = K_chooseM n l (N : Int) (tabL N l) ((bestTo N l[0].toNat (rowL N (l.drop 1)) (N + 1) : Nat) : Int) := by
  unfold K_bestM
  have ha0 := ha _ (List.getElem_mem h0)
  have hl0 : l.getD 0 0 = ((l[0].toNat : Nat) : Int) := by rw [getD_at h0]; omega
  rw [inB_0 h0, cond_true, hl0]
  generalize hA : l[0].toNat = a
  have haN : a ≤ N := by omega
  have g1 : (tabL N l).getD 1 [] = rowL N (l.drop 1) := tabL_at h0
  have i1 : inB 1 (tabL N l).length = true := inB_nat (i := 1) (by rw [tabL_length]; omega)
  refine loop_meas (fun x => ∃ k : Nat, k + a ≤ N + 1 ∧ x = ((((k + a : Nat) : Int), ()), (((bestTo N a (rowL N (l.drop 1)) k : Nat) : Int), ()))) (fun x => N + 1 - x.1.1.toNat) _ ?_ n _ ⟨0, by omega, by rw [Nat.zero_add]; rfl⟩ (by show N + 1 - _ < n; omega)
  rintro _ ⟨k, hk, rfl⟩
  by_cases h : k + a ≤ N
  · right
    have d1 : decide (((k + a : Nat) : Int) ≤ (N : Int)) = true := decide_eq_true (by omega)
    have w1 : wrapI .i64 (((k + a : Nat) : Int) - (a : Int)) = ((k : Nat) : Int) := (wrap64 (by omega) (by omega)).trans (by omega)
    have w2 : wrapI .i64 (((k + a : Nat) : Int) + 1) = ((k + 1 + a : Nat) : Int) := (wrap64 (by omega) (by omega)).trans (by omega)
    have w3 : wrapI .i64 ((N : Int) - ((k + a : Nat) : Int)) = ((N - (k + a) : Nat) : Int) := (wrap64 (by omega) (by omega)).trans (by omega)
    have i2 : inB (k : Int) (rowL N (l.drop 1)).length = true := inB_nat (by rw [rowL_length]; omega)
    refine ⟨((((k + 1 + a : Nat) : Int), ()), (((bestTo N a (rowL N (l.drop 1)) (k + 1) : Nat) : Int), ())), ⟨k + 1, by omega, rfl⟩, ?_, fun rec => ?_⟩
    · show N + 1 - (((k + 1 + a : Nat) : Int)).toNat < N + 1 - (((k + a : Nat) : Int)).toNat
      rw [Int.toNat_natCast, Int.toNat_natCast]; omega
    · rw [bestTo]
      simp only [d1, i1, g1, w1, w2, w3, i2, cond_true, Int.toNat_natCast, decide_eq_true h, Bool.and_true]
      cases (rowL N (l.drop 1)).getD k false with
      | false => simp only [cond_false]
      | true =>
        simp only [cond_true]
        congr 3
        unfold bestM
        generalize bestTo N a (rowL N (l.drop 1)) k = b
        by_cases c1 : k + a < N - (k + a)
        · rw [decide_eq_true c1, decide_eq_true (show ((k + a : Nat) : Int) < ((N - (k + a) : Nat) : Int) by omega)]
          simp only [cond_true]
          by_cases c2 : N - (k + a) < b
          · rw [decide_eq_true c2, decide_eq_true (show ((N - (k + a) : Nat) : Int) < (b : Int) by omega)]; rfl
          · rw [decide_eq_false c2, decide_eq_false (show ¬ ((N - (k + a) : Nat) : Int) < (b : Int) by omega)]; rfl
        · rw [decide_eq_false c1, decide_eq_false (show ¬ ((k + a : Nat) : Int) < ((N - (k + a) : Nat) : Int) by omega)]
          simp only [cond_false]
          by_cases c2 : k + a < b
          · rw [decide_eq_true c2, decide_eq_true (show ((k + a : Nat) : Int) < (b : Int) by omega)]; rfl
          · rw [decide_eq_false c2, decide_eq_false (show ¬ ((k + a : Nat) : Int) < (b : Int) by omega)]; rfl
  · left
    intro rec
    have d1 : decide (((k + a : Nat) : Int) ≤ (N : Int)) = false := decide_eq_false (by omega)
    simp only [d1, cond_false]
    have : k = N + 1 - a := by omega
    rw [this, bestTo_end]
theorem add_one {a : Int} {i s : Nat} (hw : S_within a 0 1000 = true) (hi : i ≤ 30) (hs : s ≤ i * 1000) : addF a i s ≤ (i + 1) * 1000 ∧ wrapI .i64 ((s : Int) + a) = ((addF a i s : Nat) : Int) := by
  simp only [S_within, Bool.and_eq_true, decide_eq_true_eq] at hw
  unfold addF
  exact ⟨by omega, (wrap64 (by omega) (by omega)).trans (by omega)⟩
theorem ok_mount_Balanced (x0 : List Int) (hok : OkA I_mount_Balanced.args (x0, ())) : ∃ n, bodyE ty T_mount_Balanced n I_mount_Balanced (x0, ()) = some (((S_bal x0).1, (S_bal x0).2.1, (S_bal x0).2.2, ()), ((), ())) := ⟨sumL x0 + 100, by
  rw [B_mount_Balanced_eq]
  unfold B_mount_Balanced S_bal
  by_cases h30 : (30 : Int) < (x0.length : Int)
  · rw [decide_eq_true h30]; rfl
  · rw [decide_eq_false h30]
    simp only [cond_false]
    have h1 : x0.length ≤ 30 := by omega
    have hm : (30 : Nat) ≤ maxLen := by decide
    refine (loop_listI (l := x0) (fun i (s : Nat) => ((i, ()), ((s : Int), ()))) (fun i s => s ≤ i * 1000) (fun a i s => bif S_within a 0 1000 then .inl (addF a i s) else .inr (some ((([] : List Int), (0 : Int), (1 : Int), ()), ((), ())))) _ (fun i hi s hs => ⟨fun s' e => ?_, fun rec => ?_⟩) (fun s _ rec => by simp only [lt_self, cond_false]; exact rfl) (by omega) (s := 0) (Nat.zero_le _)).trans ((goL_guard x0 0 0).trans ?_)
    · cases hw : S_within x0[i] 0 1000 with
      | false => rw [hw] at e; cases e
      | true => rw [hw] at e; cases e; exact (add_one hw (by omega) hs).1
    · simp only [lt_nat hi, inB_nat hi, getD_lt hi, succ64 hi (Nat.le_trans h1 hm), cond_true]
      cases hw : S_within x0[i] 0 1000 with
      | false => rfl
      | true => simp only [Bool.not_true, cond_false, cond_true, (add_one hw (by omega) hs).2]
    · cases hall : x0.all (fun a => S_within a 0 1000) with
      | false => rfl
      | true =>
        simp only [cond_true]
        have hk : okL x0 = true := by unfold okL; rw [hall, decide_eq_true h1]; rfl
        obtain ⟨_, h2⟩ := ok_of hk
        have hN := sum_30000 hk
        have e : foldI addF x0 0 0 = sumL x0 := rfl
        rw [e]
        by_cases h0 : x0.length = 0
        · cases x0 with
          | nil => rfl
          | cons => cases h0
        · have h0 : 0 < x0.length := by omega
          rw [decide_eq_false (show ¬ ((x0.length : Nat) : Int) = 0 by omega)]
          have hs : ∀ a, a ∈ x0 → 0 ≤ a ∧ a ≤ ((sumL x0 : Nat) : Int) := fun a ha => ⟨(h2 a ha).1, by have := sum_in ha; omega⟩
          have hbal : balL x0 = (chooseL (sumL x0) (bestTo (sumL x0) x0[0].toNat (rowL (sumL x0) (x0.drop 1)) (sumL x0 + 1)) (x0.drop 1) 1 x0[0].toNat [0], ((bestTo (sumL x0) x0[0].toNat (rowL (sumL x0) (x0.drop 1)) (sumL x0 + 1) : Nat) : Int), (0 : Int)) := by
            cases x0 with
            | nil => cases h0
            | cons a r => rfl
          have hf : sumL (x0.drop 1) = sumL x0 - x0[0].toNat ∧ x0[0].toNat ≤ sumL x0 := by
            cases x0 with
            | nil => cases h0
            | cons a r => rw [sum_cons]; exact ⟨by simp, by simp⟩
          rw [hbal]
          generalize sumL x0 = N at *
          have w1 : wrapI .i64 (((x0.length : Nat) : Int) + 1) = ((x0.length + 1 : Nat) : Int) := (wrap64 (by omega) (by omega)).trans (by omega)
          have w2 : wrapI .i64 ((N : Int) + 1) = ((N + 1 : Nat) : Int) := (wrap64 (by omega) (by omega)).trans (by omega)
          have d1 : decide (0 ≤ ((x0.length + 1 : Nat) : Int)) = true := decide_eq_true (by omega)
          have d2 : decide (((x0.length + 1 : Nat) : Int) ≤ 4294967296) = true := decide_eq_true (by omega)
          have d3 : decide (0 ≤ ((N + 1 : Nat) : Int)) = true := decide_eq_true (by omega)
          have d4 : decide (((N + 1 : Nat) : Int) ≤ 4294967296) = true := decide_eq_true (by omega)
          have d5 : ∀ k : Int, decide (k ≤ k) = true := fun k => decide_eq_true (Int.le_refl k)
          have i1 : inB ((x0.length : Nat) : Int) (x0.length + 1) = true := inB_nat (by omega)
          have i2 : inB 0 (N + 1) = true := inB_nat (i := 0) (by omega)
          have g : (((List.replicate (α := List Bool) (x0.length + 1) []).set x0.length (List.replicate (α := Bool) (N + 1) false)).getD x0.length []) = List.replicate (N + 1) false := by rw [getD_set (by simp), if_pos rfl]
          have g2 := tab_init x0.length N
          rw [g] at g2
          have hb := bestTo_in N x0[0].toNat (rowL N (x0.drop 1)) hf.2 (by rw [← hf.1]; exact row_full N _ (by omega)) (N + 1)
          simp only [cond_false, w1, w2, d1, d2, d3, d4, d5, Int.toNat_natCast, List.length_replicate, List.length_set, i1, i2, g, Bool.and_self, cond_true]
          refine (tab_loop S_cloneB (fun _ => cloneB_eq) x0 h1 N hN hs _ (by simp) g2 (fun T => K_bestM (N + 100) x0 (N : Int) T) _ (by omega)).trans ?_
          rw [bestK_eq hN hs h0 (by omega), choose_eq h1 h2 hN hb.1 hb.2.1 h0 hb.2.2 (by omega)]⟩
noncomputable def E_mount_Balanced : Entry Try.prog := Entry.of tok T_mount_Balanced I_mount_Balanced it_mount_Balanced (fun (x0, ()) => some (((S_bal x0).1, (S_bal x0).2.1, (S_bal x0).2.2, ()), ((), ()))) (fun (x0, ()) r hok h => by cases h; exact ok_mount_Balanced x0 hok)

end Go.Proofs.Yteepfoiiidpchaa
namespace Go.Proofs.Yteepfoiiidpchaa
open Go Go.VM
/-! ### etchhouse.etchhouselaw10.awake -/
noncomputable def I_etchhouselaw10_awake : Inst := ⟨10, Try.f10, .two (.reg []) (.two (.reg [(1, 0)]) (.two (.reg []) (.leaf))), .nil, (.cons .flat .bool .nil)⟩
theorem it_etchhouselaw10_awake : InTab Try.prog I_etchhouselaw10_awake := ⟨Try.func10, by kernel_rfl, rfl⟩
noncomputable def T_etchhouselaw10_awake : Nat → Entry Try.prog := nth (Entry.no Try.f0) [E_mount_Balanced]
noncomputable def B_etchhouselaw10_awake  : Option (((Bool × Unit) × Unit)) :=
  some ((true, ()), ())
theorem B_etchhouselaw10_awake_eq (n : Nat)  : bodyE ty T_etchhouselaw10_awake n I_etchhouselaw10_awake () = B_etchhouselaw10_awake  := by kernel_rfl
noncomputable def E_etchhouselaw10_awake : Entry Try.prog := Entry.of tok T_etchhouselaw10_awake I_etchhouselaw10_awake it_etchhouselaw10_awake (fun x => B_etchhouselaw10_awake ) (fun () r _ h => ⟨0, (B_etchhouselaw10_awake_eq 0 ).trans h⟩)

end Go.Proofs.Yteepfoiiidpchaa
namespace Go.Proofs.Yteepfoiiidpchaa
open Go Go.VM
/-! ### slices.Index[[]int,int] -/
noncomputable def I_slices_Index_int_int : Inst := ⟨23, Try.f23, .two (.reg []) (.two (.two (.reg []) (.one (.loop ⟨[(8, .pv i)], [], [0, 1, 7], []⟩ (.two (.reg []) (.two (.two (.leaf) (.leaf)) (.two (.one (.two (.reg []) (.two (.reg []) (.two (.two (.reg []) (.leaf)) (.leaf))))) (.reg []))))))) (.two (.reg []) (.leaf))), (.cons (.pv (.sl i)) (.cons (.pv i) .nil)), (.cons .flat i .nil)⟩
theorem it_slices_Index_int_int : InTab Try.prog I_slices_Index_int_int := ⟨Try.func23, by kernel_rfl, rfl⟩
noncomputable def T_slices_Index_int_int : Nat → Entry Try.prog := nth (Entry.no Try.f0) []
noncomputable def B_slices_Index_int_int (n : Nat) (x0 : List Int) (x1 : Int) : Option (((Int × Unit) × (Unit × (Unit × Unit)))) :=
  loopN (fun rec1 => fun
  | ((v1aa, ()), ()) =>
    (bif decide ((v1aa < ((x0.length : Nat) : Int))) then
      (bif inB v1aa x0.length then
        (bif decide ((x1 = x0.getD v1aa.toNat 0)) then
          some ((v1aa, ()), ((), ((), ())))
        else
          rec1 ((wrapI .i64 (v1aa + 1), ()), ()))
      else
        none)
    else
      some (((-1), ()), ((), ((), ())))))
  n ((0, ()), ())
theorem B_slices_Index_int_int_eq (n : Nat) (x0 : List Int) (x1 : Int) : bodyE ty T_slices_Index_int_int n I_slices_Index_int_int (x0, (x1, ())) = B_slices_Index_int_int n x0 x1 := by kernel_rfl
def S_idxI : List Int → Int → Nat → Int
  | [], _, _ => -1
  | a :: r, x, i => bif decide (x = a) then (i : Int) else S_idxI r x (i + 1)
theorem idxI_in : ∀ (l : List Int) (x : Int) (i : Nat), decide (0 ≤ S_idxI l x i) = decide (x ∈ l)
  | [], x, i => by simp [S_idxI]
  | a :: r, x, i => by
    have ih := idxI_in r x (i + 1)
    by_cases h : x = a
    · have : S_idxI (a :: r) x i = i := by simp only [S_idxI, decide_eq_true h, cond_true]
      rw [this]; simp [h]
    · have : S_idxI (a :: r) x i = S_idxI r x (i + 1) := by simp only [S_idxI, decide_eq_false h, cond_false]
      rw [this, ih]; simp [h]
theorem ok_slices_Index_int_int (x0 : List Int) (x1 : Int) (hok : OkA I_slices_Index_int_int.args (x0, x1, ())) : ∃ n, bodyE ty T_slices_Index_int_int n I_slices_Index_int_int (x0, x1, ()) = some ((S_idxI x0 x1 0, ()), ((), (), ())) := ⟨x0.length + 1, by
  obtain ⟨⟨hl, _⟩, _⟩ := hok
  rw [B_slices_Index_int_int_eq]
  unfold B_slices_Index_int_int
  refine (loop_list (l := x0) (fun i (_ : Unit) => ((i, ()), ())) (fun a i _ => bif decide (x1 = a) then .inr (some (((i : Int), ()), ((), (), ()))) else .inl ()) (fun _ => some ((-1, ()), ((), (), ()))) (fun i h s rec => ?_) (fun s rec => ?_) (Nat.lt_succ_self _) ()).trans ?_
  · simp only [lt_nat h, inB_nat h, getD_lt h, succ64 h hl, cond_true]
    cases decide (x1 = x0[i]) <;> rfl
  · simp only [lt_self, cond_false]
  · have : ∀ (l : List Int) i, goL (fun a i (_ : Unit) => bif decide (x1 = a) then .inr (some (((i : Int), ()), ((), (), ()))) else .inl ()) (fun _ => some (((-1 : Int), ()), ((), (), ()))) l i () = some ((S_idxI l x1 i, ()), ((), (), ())) := by
      intro l
      induction l with
      | nil => intro i; rfl
      | cons a r ih =>
        intro i
        simp only [goL, S_idxI]
        cases decide (x1 = a) with
        | false => simpa using ih (i + 1)
        | true => rfl
    exact this x0 0⟩
noncomputable def E_slices_Index_int_int : Entry Try.prog := Entry.of tok T_slices_Index_int_int I_slices_Index_int_int it_slices_Index_int_int (fun (x0, x1, ()) => some ((S_idxI x0 x1 0, ()), ((), (), ()))) (fun (x0, x1, ()) r hok h => by cases h; exact ok_slices_Index_int_int x0 x1 hok)

end Go.Proofs.Yteepfoiiidpchaa
namespace Go.Proofs.Yteepfoiiidpchaa
open Go Go.VM
/-! ### slices.Contains[[]int,int] -/
noncomputable def I_slices_Contains_int_int : Inst := ⟨11, Try.f11, .two (.reg []) (.two (.reg [(2, 0)]) (.leaf)), (.cons (.pv (.sl i)) (.cons (.pv i) .nil)), (.cons .flat .bool .nil)⟩
theorem it_slices_Contains_int_int : InTab Try.prog I_slices_Contains_int_int := ⟨Try.func11, by kernel_rfl, rfl⟩
noncomputable def T_slices_Contains_int_int : Nat → Entry Try.prog := nth (Entry.no Try.f0) [E_slices_Index_int_int]
noncomputable def B_slices_Contains_int_int (x0 : List Int) (x1 : Int) : Option (((Bool × Unit) × (Unit × (Unit × Unit)))) :=
  some ((decide ((0 ≤ S_idxI x0 x1 0)), ()), ((), ((), ())))
theorem B_slices_Contains_int_int_eq (n : Nat) (x0 : List Int) (x1 : Int) : bodyE ty T_slices_Contains_int_int n I_slices_Contains_int_int (x0, (x1, ())) = B_slices_Contains_int_int x0 x1 := by kernel_rfl
def S_hasI (l : List Int) (p : Int) : Bool := decide (p ∈ l)
theorem ok_slices_Contains_int_int (x0 : List Int) (x1 : Int) (hok : OkA I_slices_Contains_int_int.args (x0, x1, ())) : ∃ n, bodyE ty T_slices_Contains_int_int n I_slices_Contains_int_int (x0, x1, ()) = some ((S_hasI x0 x1, ()), ((), (), ())) := ⟨0, by
  rw [B_slices_Contains_int_int_eq]; unfold B_slices_Contains_int_int; rw [idxI_in]; rfl⟩
noncomputable def E_slices_Contains_int_int : Entry Try.prog := Entry.of tok T_slices_Contains_int_int I_slices_Contains_int_int it_slices_Contains_int_int (fun (x0, x1, ()) => some ((S_hasI x0 x1, ()), ((), (), ()))) (fun (x0, x1, ()) r hok h => by cases h; exact ok_slices_Contains_int_int x0 x1 hok)

end Go.Proofs.Yteepfoiiidpchaa
namespace Go.Proofs.Yteepfoiiidpchaa
open Go Go.VM
/-! ### etchhouse.etchhouselaw10.MountBalancedIsLeast -/
noncomputable def I_etchhouselaw10_MountBalancedIsLeast : Inst := ⟨4, Try.f4, .two (.reg []) (.two (.reg [(1, 0)]) (.two (.two (.reg []) (.two (.two (.reg [(8, 1)]) (.leaf)) (.leaf))) (.two (.reg []) (.two (.two (.reg []) (.one (.loop ⟨[(8, .pv i), (9, .pv i), (10, .pv i), (33, .pv i)], [], [1, 5, 6, 31, 32], [5]⟩ (.two (.reg []) (.two (.two (.leaf) (.leaf)) (.two (.one (.two (.reg []) (.two (.reg []) (.two (.two (.reg [(2, 2)]) (.two (.reg []) (.leaf))) (.two (.reg []) (.two (.reg []) (.leaf))))))) (.reg []))))))) (.two (.reg [(17, 1)]) (.leaf)))))), (.cons (.pv (.sl i)) (.cons (.pv (.sl .bool)) .nil)), (.cons .flat .bool .nil)⟩
theorem it_etchhouselaw10_MountBalancedIsLeast : InTab Try.prog I_etchhouselaw10_MountBalancedIsLeast := ⟨Try.func4, by kernel_rfl, rfl⟩
noncomputable def T_etchhouselaw10_MountBalancedIsLeast : Nat → Entry Try.prog := nth (Entry.no Try.f0) [E_mount_Balanced, E_etchhouselaw10_awake, E_slices_Contains_int_int]
noncomputable def B_etchhouselaw10_MountBalancedIsLeast (n : Nat) (x0 : List Int) (x1 : List Bool) : Option (((Bool × Unit) × (Unit × (Unit × Unit)))) :=
  (bif (!(decide ((((S_bal x0).2).2 = 0)))) then
    (bif decide ((((((S_bal x0).1).length : Nat) : Int) = 0)) then
      (bif decide ((((S_bal x0).2).1 = 0)) then
        ((B_etchhouselaw10_awake).bind fun ((r1aa, ()), ()) =>
        some ((r1aa, ()), ((), ((), ()))))
      else
        some ((false, ()), ((), ((), ()))))
    else
      some ((false, ()), ((), ((), ()))))
  else
    loopN (fun rec2 => fun
    | ((v2aa, (v2aba, (v2abba, (v2abbba, ())))), ()) =>
      (bif decide ((v2abbba < ((x0.length : Nat) : Int))) then
        (bif inB v2abbba x0.length then
          (bif S_hasI ((S_bal x0).1) v2abbba then
            (bif decide ((v2abbba < ((x1.length : Nat) : Int))) then
              (bif inB v2abbba x1.length then
                (bif x1.getD v2abbba.toNat false then
                  rec2 ((wrapI .i64 (v2aa + x0.getD v2abbba.toNat 0), (wrapI .i64 (v2aba + x0.getD v2abbba.toNat 0), (wrapI .i64 (v2abba + x0.getD v2abbba.toNat 0), (wrapI .i64 (v2abbba + 1), ())))), ())
                else
                  rec2 ((wrapI .i64 (v2aa + x0.getD v2abbba.toNat 0), (wrapI .i64 (v2aba + x0.getD v2abbba.toNat 0), (v2abba, (wrapI .i64 (v2abbba + 1), ())))), ()))
              else
                none)
            else
              rec2 ((wrapI .i64 (v2aa + x0.getD v2abbba.toNat 0), (wrapI .i64 (v2aba + x0.getD v2abbba.toNat 0), (v2abba, (wrapI .i64 (v2abbba + 1), ())))), ()))
          else
            (bif decide ((v2abbba < ((x1.length : Nat) : Int))) then
              (bif inB v2abbba x1.length then
                (bif x1.getD v2abbba.toNat false then
                  rec2 ((v2aa, (wrapI .i64 (v2aba + x0.getD v2abbba.toNat 0), (wrapI .i64 (v2abba + x0.getD v2abbba.toNat 0), (wrapI .i64 (v2abbba + 1), ())))), ())
                else
                  rec2 ((v2aa, (wrapI .i64 (v2aba + x0.getD v2abbba.toNat 0), (v2abba, (wrapI .i64 (v2abbba + 1), ())))), ()))
              else
                none)
            else
              rec2 ((v2aa, (wrapI .i64 (v2aba + x0.getD v2abbba.toNat 0), (v2abba, (wrapI .i64 (v2abbba + 1), ())))), ())))
        else
          none)
      else
        (bif decide (((bif decide ((v2aa < wrapI .i64 (v2aba - v2aa))) then wrapI .i64 (v2aba - v2aa) else v2aa) = ((S_bal x0).2).1)) then
          (bif decide ((((S_bal x0).2).1 ≤ (bif decide ((v2abba < wrapI .i64 (v2aba - v2abba))) then wrapI .i64 (v2aba - v2abba) else v2abba))) then
            ((B_etchhouselaw10_awake).bind fun ((r3aa, ()), ()) =>
            some ((r3aa, ()), ((), ((), ()))))
          else
            some ((false, ()), ((), ((), ()))))
        else
          some ((false, ()), ((), ((), ()))))))
    n ((0, (0, (0, (0, ())))), ()))
theorem B_etchhouselaw10_MountBalancedIsLeast_eq (n : Nat) (x0 : List Int) (x1 : List Bool) : bodyE ty T_etchhouselaw10_MountBalancedIsLeast n I_etchhouselaw10_MountBalancedIsLeast (x0, (x1, ())) = B_etchhouselaw10_MountBalancedIsLeast n x0 x1 := by kernel_rfl
def selL (P : Nat → Bool) : List Int → Nat → Nat
  | [], _ => 0
  | a :: r, i => (bif P i then a.toNat else 0) + selL P r (i + 1)
theorem selL_congr {P Q : Nat → Bool} : ∀ (r : List Int) (i : Nat), (∀ j, i ≤ j → P j = Q j) → selL P r i = selL Q r i
  | [], _, _ => rfl
  | a :: r, i, h => by
    rw [selL, selL, h i (Nat.le_refl _), selL_congr r (i + 1) fun j hj => h j (by omega)]
theorem selL_none : ∀ (r : List Int) (i : Nat), selL (fun _ => false) r i = 0
  | [], _ => rfl
  | a :: r, i => by rw [selL, selL_none r, cond_false]
theorem selL_not (P : Nat → Bool) : ∀ (r : List Int) (i : Nat), selL P r i + selL (fun j => !P j) r i = sumL r
  | [], _ => rfl
  | a :: r, i => by
    have := selL_not P r (i + 1)
    rw [selL, selL, sum_cons]
    cases P i <;> simp only [Bool.not_true, Bool.not_false, cond_true, cond_false] <;> omega
theorem row_sub (N : Nat) (P : Nat → Bool) : ∀ (r : List Int) (i : Nat), selL P r i ≤ N → (rowL N r).getD (selL P r i) false = true
  | [], _, _ => by simp [rowL, selL, List.getD_eq_getElem?_getD]
  | a :: r, i, h => by
    rw [selL] at h ⊢
    have ih := row_sub N P r (i + 1)
    rw [rowL, mixL_at (by rw [rowL_length]; omega)]
    cases hP : P i with
    | false =>
      rw [hP, cond_false, Nat.zero_add] at h
      simp only [cond_false, Nat.zero_add]
      rw [ih h, Bool.true_or]
    | true =>
      rw [hP, cond_true] at h
      simp only [cond_true]
      have e : a.toNat + selL P r (i + 1) - a.toNat = selL P r (i + 1) := by omega
      rw [e, ih (by omega), decide_eq_true (show a.toNat ≤ a.toNat + selL P r (i + 1) by omega), decide_eq_true (show a.toNat + selL P r (i + 1) < N + 1 by omega), Bool.and_self, Bool.and_self, Bool.or_true]
theorem bestM_le (N k a b : Nat) : bestM N k a b ≤ b ∧ (bestM N k a b ≤ k + a ∨ bestM N k a b ≤ N - (k + a)) := by
  unfold bestM
  by_cases h1 : k + a < N - (k + a)
  · rw [decide_eq_true h1, cond_true]
    by_cases h2 : N - (k + a) < b
    · rw [decide_eq_true h2, cond_true]; omega
    · rw [decide_eq_false h2, cond_false]; omega
  · rw [decide_eq_false h1, cond_false]
    by_cases h2 : k + a < b
    · rw [decide_eq_true h2, cond_true]; omega
    · rw [decide_eq_false h2, cond_false]; omega
theorem bestTo_le {N a : Nat} {row : List Bool} {k : Nat} (hr : row.getD k false = true) (hk : k + a ≤ N) : ∀ j, k < j → bestTo N a row j ≤ k + a ∨ bestTo N a row j ≤ N - (k + a)
  | 0, h => absurd h (Nat.not_lt_zero _)
  | j + 1, h => by
    rw [bestTo]
    by_cases e : k = j
    · subst e
      rw [hr, decide_eq_true hk, Bool.and_self, cond_true]
      exact (bestM_le ..).2
    · have ih := bestTo_le hr hk j (by omega)
      cases row.getD j false && decide (j + a ≤ N) with
      | false => exact ih
      | true =>
        rw [cond_true]
        have := (bestM_le N j a (bestTo N a row j)).1
        omega
theorem choose_sum {N best : Nat} (hb : best ≤ N) (hh : N ≤ 2 * best) : ∀ (r : List Int) (i s : Nat) (out : List Int), reachN (rowL N r) N best s = true → ∃ t : List Int, chooseL N best r i s out = out ++ t ∧ (∀ x, x ∈ t → (i : Int) ≤ x) ∧ doneN N best (s + selL (fun j => decide ((j : Int) ∈ t)) r i) = true
  | [], i, s, out, h => ⟨[], by simp [chooseL], by simp, by simpa [selL] using reach_nil hb hh h⟩
  | a :: r, i, s, out, h => by
    cases hd : doneN N best s with
    | true =>
      refine ⟨[], by rw [choose_done hd, List.append_nil], by simp, ?_⟩
      rw [selL_congr (Q := fun _ => false) (a :: r) i (fun j _ => by simp), selL_none]
      exact hd
    | false =>
      cases hR : reachN (rowL N r) N best (s + a.toNat) with
      | true =>
        obtain ⟨t, h1, h2, h3⟩ := choose_sum hb hh r (i + 1) (s + a.toNat) (out ++ [(i : Int)]) hR
        refine ⟨(i : Int) :: t, ?_, ?_, ?_⟩
        · rw [chooseL, hd, cond_false, hR, cond_true, h1, List.append_assoc]; rfl
        · intro x hx
          rcases List.mem_cons.1 hx with rfl | hx
          · exact Int.le_refl _
          · have := h2 x hx; omega
        · rw [selL, decide_eq_true (show (i : Int) ∈ (i : Int) :: t from List.mem_cons_self), cond_true, selL_congr (Q := fun j => decide ((j : Int) ∈ t)) r (i + 1) (fun j hj => by
            refine decide_eq_decide.2 ⟨fun h => ?_, fun h => List.mem_cons_of_mem _ h⟩
            rcases List.mem_cons.1 h with h | h
            · omega
            · exact h), ← Nat.add_assoc]
          exact h3
      | false =>
        obtain ⟨t, h1, h2, h3⟩ := choose_sum hb hh r (i + 1) s out (reach_skip hb h hR)
        refine ⟨t, ?_, ?_, ?_⟩
        · rw [chooseL, hd, cond_false, hR, cond_false, h1]
        · intro x hx
          have := h2 x hx; omega
        · have : ¬ (i : Int) ∈ t := fun hi => by have := h2 _ hi; omega
          rw [selL, decide_eq_false this, cond_false, Nat.zero_add]
          exact h3
def selF (P Q : Nat → Bool) (a : Int) (i : Nat) (s : Nat × Nat × Nat) : Nat × Nat × Nat := (bif P i then s.1 + a.toNat else s.1, s.2.1 + a.toNat, bif Q i then s.2.2 + a.toNat else s.2.2)
theorem selF_fold (P Q : Nat → Bool) : ∀ (r : List Int) (i : Nat) (s : Nat × Nat × Nat), foldI (selF P Q) r i s = (s.1 + selL P r i, s.2.1 + sumL r, s.2.2 + selL Q r i)
  | [], _, _ => rfl
  | a :: r, i, s => by
    simp only [foldI]
    rw [selF_fold P Q r, selL, selL, sum_cons]
    unfold selF
    cases P i <;> cases Q i <;> simp only [cond_true, cond_false, Prod.mk.injEq] <;> omega
theorem bal_no {l : List Int} (h : (S_bal l).2.2 ≠ 0) : (S_bal l).1 = [] ∧ (S_bal l).2.1 = 0 := by
  unfold S_bal at h ⊢
  by_cases h30 : (30 : Int) < (l.length : Int)
  · rw [decide_eq_true h30]; exact ⟨rfl, rfl⟩
  · rw [decide_eq_false h30] at h ⊢
    cases hall : l.all (fun a => S_within a 0 1000) with
    | false => exact ⟨rfl, rfl⟩
    | true =>
      rw [hall] at h
      exact absurd (by cases l <;> rfl) h
theorem bal_ok {l : List Int} (h : (S_bal l).2.2 = 0) : okL l = true ∧ S_bal l = balL l := by
  unfold S_bal at h ⊢
  by_cases h30 : (30 : Int) < (l.length : Int)
  · rw [decide_eq_true h30] at h; cases h
  · rw [decide_eq_false h30] at h ⊢
    cases hall : l.all (fun a => S_within a 0 1000) with
    | false => rw [hall] at h; cases h
    | true => exact ⟨by unfold okL; rw [hall, decide_eq_true (show l.length ≤ 30 by omega)]; rfl, rfl⟩
/-- what the division of loads is -/
theorem bal_is {l : List Int} (hk : okL l = true) : ∃ best : Nat, (balL l).2.1 = (best : Int) ∧ best ≤ sumL l ∧ doneN (sumL l) best (selL (fun j => decide ((j : Int) ∈ (balL l).1)) l 0) = true ∧ ∀ Q : Nat → Bool, best ≤ selL Q l 0 ∨ best ≤ sumL l - selL Q l 0 := by
  cases l with
  | nil => exact ⟨0, rfl, Nat.le_refl _, rfl, fun _ => .inl (Nat.zero_le _)⟩
  | cons a r =>
    have hsum := sum_cons a r
    obtain ⟨h1, h2, h3⟩ := bestTo_in (sumL (a :: r)) a.toNat (rowL (sumL (a :: r)) r) (by omega) (by rw [show sumL (a :: r) - a.toNat = sumL r by omega]; exact row_full _ r (by omega)) (sumL (a :: r) + 1)
    have hle := fun k hr hk2 hj => bestTo_le (N := sumL (a :: r)) (a := a.toNat) (row := rowL (sumL (a :: r)) r) (k := k) hr hk2 (sumL (a :: r) + 1) hj
    obtain ⟨t, c1, c2, c3⟩ := choose_sum h1 h2 r 1 a.toNat [0] h3
    refine ⟨bestTo (sumL (a :: r)) a.toNat (rowL (sumL (a :: r)) r) (sumL (a :: r) + 1), rfl, h1, ?_, fun Q => ?_⟩
    · have e : (balL (a :: r)).1 = [0] ++ t := c1
      rw [e, selL, decide_eq_true (show ((0 : Nat) : Int) ∈ [0] ++ t by simp), cond_true, selL_congr (Q := fun j => decide ((j : Int) ∈ t)) r (0 + 1) (fun j hj => by
        refine decide_eq_decide.2 ⟨fun h => ?_, fun h => List.mem_append_right _ h⟩
        rcases List.mem_append.1 h with h | h
        · have := List.mem_singleton.1 h; omega
        · exact h)]
      exact c3
    · have key : ∀ Q : Nat → Bool, Q 0 = true → bestTo (sumL (a :: r)) a.toNat (rowL (sumL (a :: r)) r) (sumL (a :: r) + 1) ≤ selL Q (a :: r) 0 ∨ bestTo (sumL (a :: r)) a.toNat (rowL (sumL (a :: r)) r) (sumL (a :: r) + 1) ≤ sumL (a :: r) - selL Q (a :: r) 0 := by
        intro Q hQ
        have n1 := selL_not Q r 1
        have := hle (selL Q r 1) (row_sub _ Q r 1 (by omega)) (by omega) (by omega)
        have e : selL Q (a :: r) 0 = selL Q r 1 + a.toNat := by rw [selL, hQ, cond_true]; exact Nat.add_comm _ _
        rw [e]
        exact this
      cases hQ : Q 0 with
      | true => exact key Q hQ
      | false =>
        have n1 := selL_not Q (a :: r) 0
        have := key (fun j => !Q j) (by show (!Q 0) = true; rw [hQ]; rfl)
        omega
theorem bif_le (c : Bool) {n i : Nat} {a : Int} (h : n ≤ i * 1000) (ha : 0 ≤ a ∧ a ≤ 1000) : (bif c then n + a.toNat else n) ≤ (i + 1) * 1000 := by
  have h2 : a.toNat ≤ 1000 := by omega
  have e := (Nat.succ_mul i 1000).symm
  cases c
  · exact Nat.le_trans h (Nat.le_trans (Nat.le_add_right _ _) (Nat.le_of_eq e))
  · exact Nat.le_trans (Nat.add_le_add h h2) (Nat.le_of_eq e)
theorem ok_etchhouselaw10_MountBalancedIsLeast (x0 : List Int) (x1 : List Bool) (hok : OkA I_etchhouselaw10_MountBalancedIsLeast.args (x0, x1, ())) : ∃ n, bodyE ty T_etchhouselaw10_MountBalancedIsLeast n I_etchhouselaw10_MountBalancedIsLeast (x0, x1, ()) = some ((true, ()), ((), (), ())) := ⟨x0.length + 1, by
  rw [B_etchhouselaw10_MountBalancedIsLeast_eq]
  unfold B_etchhouselaw10_MountBalancedIsLeast
  have hA : B_etchhouselaw10_awake = some ((true, ()), ()) := rfl
  rw [hA]
  simp only [Option.bind_some]
  by_cases hf : (S_bal x0).2.2 = 0
  · rw [decide_eq_true hf]
    simp only [Bool.not_true, cond_false]
    obtain ⟨hk, hbal⟩ := bal_ok hf
    obtain ⟨best, b1, b2, b3, b4⟩ := bal_is hk
    rw [hbal, b1]
    obtain ⟨h1, h2⟩ := ok_of hk
    have hN := sum_30000 hk
    have hm : (30 : Nat) ≤ maxLen := by decide
    refine (loop_fold (l := x0) (fun i (s : Nat × Nat × Nat) => (((s.1 : Int), ((s.2.1 : Int), ((s.2.2 : Int), (i, ())))), ())) (fun i s => s.1 ≤ i * 1000 ∧ s.2.1 ≤ i * 1000 ∧ s.2.2 ≤ i * 1000) (selF (fun j => decide ((j : Int) ∈ (balL x0).1)) (fun j => decide (j < x1.length) && x1.getD j false)) _ (fun i hi s hs => ⟨?_, fun rec => ?_⟩) (fun s _ rec => by simp only [lt_self, cond_false]; exact rfl) (Nat.lt_succ_self _) (s := (0, 0, 0)) ⟨Nat.zero_le _, Nat.zero_le _, Nat.zero_le _⟩).trans ?_
    · have hai := h2 _ (List.getElem_mem hi)
      generalize x0[i] = a at hai
      obtain ⟨s1, s2, s3⟩ := hs
      unfold selF
      refine ⟨?_, ?_, ?_⟩
      · exact bif_le _ s1 hai
      · exact bif_le true s2 hai
      · exact bif_le _ s3 hai
    · have hai := h2 _ (List.getElem_mem hi)
      obtain ⟨s1, s2, s3⟩ := hs
      have w : ∀ n : Nat, n ≤ i * 1000 → wrapI .i64 ((n : Int) + x0[i]) = ((n + x0[i].toNat : Nat) : Int) := fun n hn => (wrap64 (by omega) (by omega)).trans (by omega)
      have gi : x0.getD i 0 = x0[i] := getD_at hi
      simp only [lt_nat hi, inB_nat hi, succ64 hi (Nat.le_trans h1 hm), cond_true, Int.toNat_natCast, gi, w _ s1, w _ s2, w _ s3]
      unfold selF S_hasI
      dsimp only
      by_cases hq : i < x1.length
      · rw [lt_nat hq, inB_nat hq, decide_eq_true hq]
        simp only [cond_true, Bool.true_and]
        cases decide ((i : Int) ∈ (balL x0).1) <;> cases x1.getD i false <;> rfl
      · rw [decide_eq_false (show ¬ (i : Int) < (x1.length : Int) by omega), decide_eq_false hq]
        simp only [cond_false, Bool.false_and]
        cases decide ((i : Int) ∈ (balL x0).1) <;> rfl
    · rw [selF_fold]
      simp only [Nat.zero_add]
      have q1 := selL_not (fun j => decide ((j : Int) ∈ (balL x0).1)) x0 0
      have q2 := selL_not (fun j => decide (j < x1.length) && x1.getD j false) x0 0
      have q3 := b4 (fun j => decide (j < x1.length) && x1.getD j false)
      generalize selL (fun j => decide ((j : Int) ∈ (balL x0).1)) x0 0 = A at *
      generalize selL (fun j => decide (j < x1.length) && x1.getD j false) x0 0 = O at *
      generalize sumL x0 = N at *
      have w1 : wrapI .i64 ((N : Int) - (A : Int)) = ((N - A : Nat) : Int) := (wrap64 (by omega) (by omega)).trans (by omega)
      have w2 : wrapI .i64 ((N : Int) - (O : Int)) = ((N - O : Nat) : Int) := (wrap64 (by omega) (by omega)).trans (by omega)
      rw [w1, w2, done_eq, b3]
      have : decide ((best : Int) ≤ (bif decide ((O : Int) < ((N - O : Nat) : Int)) then ((N - O : Nat) : Int) else (O : Int))) = true := by
        refine decide_eq_true ?_
        by_cases h : (O : Int) < ((N - O : Nat) : Int)
        · rw [decide_eq_true h, cond_true]; omega
        · rw [decide_eq_false h, cond_false]; omega
      rw [this]
      rfl
  · rw [decide_eq_false hf, (bal_no hf).1, (bal_no hf).2]
    rfl⟩
noncomputable def E_etchhouselaw10_MountBalancedIsLeast : Entry Try.prog := Entry.of tok T_etchhouselaw10_MountBalancedIsLeast I_etchhouselaw10_MountBalancedIsLeast it_etchhouselaw10_MountBalancedIsLeast (fun (x0, x1, ()) => some ((true, ()), ((), (), ()))) (fun (x0, x1, ()) r hok h => by cases h; exact ok_etchhouselaw10_MountBalancedIsLeast x0 x1 hok)

end Go.Proofs.Yteepfoiiidpchaa
namespace Go.Proofs.Yteepfoiiidpchaa
open Go Go.VM
namespace LMountBalancedIsLeast
theorem law (x0 : List Int) (x1 : List Bool) : (some ((true, ()), ((), ((), ()))) : Option ((Bool × Unit) × Unit × Unit × Unit)) = some ((true, ()), ((), ((), ()))) := rfl

end LMountBalancedIsLeast
end Go.Proofs.Yteepfoiiidpchaa
