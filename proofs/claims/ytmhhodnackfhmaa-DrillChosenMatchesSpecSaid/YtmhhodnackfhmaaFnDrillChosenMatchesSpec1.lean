/- What the functions that DrillChosenMatchesSpec reaches compute, part 1; and that the law answers true, for all arguments that a row reads. -/
import Derived.Test.YtmhhodnackfhmaaProg
import Derived.Test.YtmhhodnackfhmaaVmDrillChosenMatchesSpec4
namespace Go.Proofs.Ytmhhodnackfhmaa
open Go Go.VM
abbrev i : Ty := .int .i64
def tab : List (Nat × Ty) := [(22, (.sl (.pair .str (.pair i (.pair i (.pair i .unit)))))), (33, (.pair .str (.pair i (.pair i (.pair i .unit))))), (9, .str), (3, i), (23, (.sl (.pair .str (.pair (.sl (.pair (.pair i (.pair i .unit)) (.pair i (.pair i (.pair .bool .unit))))) .unit)))), (31, (.pair .str (.pair (.sl (.pair (.pair i (.pair i .unit)) (.pair i (.pair i (.pair .bool .unit))))) .unit))), (29, (.sl (.pair (.pair i (.pair i .unit)) (.pair i (.pair i (.pair .bool .unit)))))), (58, (.pair (.pair i (.pair i .unit)) (.pair i (.pair i (.pair .bool .unit))))), (49, (.pair i (.pair i .unit))), (4, .bool), (24, (.sl (.pair .str (.pair i (.pair i .unit))))), (35, (.pair .str (.pair i (.pair i .unit)))), (25, i), (5, (.int .u8)), (100, (.int .u64)), (66, (.sl (.pair i (.pair i .unit)))), (37, (.sl i)), (68, (.sl (.sl (.pair (.pair i (.pair i .unit)) (.pair i (.pair i (.pair .bool .unit)))))))]
def ty : Types := mkTypes tab [58, 35]
theorem tok : TyOK Try.prog ty := tyok_of_check (by kernel_rfl)
end Go.Proofs.Ytmhhodnackfhmaa
namespace Go.Proofs.Ytmhhodnackfhmaa
open Go Go.VM
noncomputable def I_bytealg_IndexByteString : Inst := ⟨95, Try.f95, .leaf, pvs [.str, .int .u8], .cons .flat (.int .i64) .nil⟩
noncomputable def E_bytealg_IndexByteString : Entry Try.prog := Entry.ext I_bytealg_IndexByteString idxF (ext_idx Try.func95 (by kernel_rfl) rfl (by kernel_rfl) (by kernel_rfl))

end Go.Proofs.Ytmhhodnackfhmaa
namespace Go.Proofs.Ytmhhodnackfhmaa
open Go Go.VM
/-! ### internal.stringslite.IndexByte -/
noncomputable def I_stringslite_IndexByte : Inst := ⟨87, Try.f87, .two (.reg []) (.two (.reg [(2, 0)]) (.leaf)), (.cons (.pv .str) (.cons (.pv (.int .u8)) .nil)), (.cons .flat i .nil)⟩
theorem it_stringslite_IndexByte : InTab Try.prog I_stringslite_IndexByte := ⟨Try.func87, by kernel_rfl, rfl⟩
noncomputable def T_stringslite_IndexByte : Nat → Entry Try.prog := nth (Entry.no Try.f0) [E_bytealg_IndexByteString]
noncomputable def B_stringslite_IndexByte (x0 : ByteArray) (x1 : Int) : Option (((Int × Unit) × (Unit × (Unit × Unit)))) :=
  some ((S_idx x0 x1, ()), ((), ((), ())))
theorem B_stringslite_IndexByte_eq (n : Nat) (x0 : ByteArray) (x1 : Int) : bodyE ty T_stringslite_IndexByte n I_stringslite_IndexByte (x0, (x1, ())) = B_stringslite_IndexByte x0 x1 := by kernel_rfl

end Go.Proofs.Ytmhhodnackfhmaa
namespace Go.Proofs.Ytmhhodnackfhmaa
open Go Go.VM
def S_stringslite_IndexByte (x0 : ByteArray) (x1 : Int) : Int := S_idx x0 x1
theorem ok_stringslite_IndexByte (x0 : ByteArray) (x1 : Int) (hok : OkA I_stringslite_IndexByte.args (x0, x1, ())) : ∃ n, bodyE ty T_stringslite_IndexByte n I_stringslite_IndexByte (x0, x1, ()) = some (((S_stringslite_IndexByte x0 x1), ()), ((), (), ())) := ⟨0, by rw [B_stringslite_IndexByte_eq]; rfl⟩
noncomputable def E_stringslite_IndexByte : Entry Try.prog := Entry.of tok T_stringslite_IndexByte I_stringslite_IndexByte it_stringslite_IndexByte (fun (x0, x1, ()) => some (((S_stringslite_IndexByte x0 x1), ()), ((), (), ()))) (fun (x0, x1, ()) r hok h => by cases h; exact ok_stringslite_IndexByte x0 x1 hok)

end Go.Proofs.Ytmhhodnackfhmaa
namespace Go.Proofs.Ytmhhodnackfhmaa
open Go Go.VM
/-! ### strings.IndexByte -/
noncomputable def I_strings_IndexByte : Inst := ⟨69, Try.f69, .two (.reg []) (.two (.reg [(2, 0)]) (.leaf)), (.cons (.pv .str) (.cons (.pv (.int .u8)) .nil)), (.cons .flat i .nil)⟩
theorem it_strings_IndexByte : InTab Try.prog I_strings_IndexByte := ⟨Try.func69, by kernel_rfl, rfl⟩
noncomputable def T_strings_IndexByte : Nat → Entry Try.prog := nth (Entry.no Try.f0) [E_stringslite_IndexByte]
noncomputable def B_strings_IndexByte (x0 : ByteArray) (x1 : Int) : Option (((Int × Unit) × (Unit × (Unit × Unit)))) :=
  some ((S_stringslite_IndexByte x0 x1, ()), ((), ((), ())))
theorem B_strings_IndexByte_eq (n : Nat) (x0 : ByteArray) (x1 : Int) : bodyE ty T_strings_IndexByte n I_strings_IndexByte (x0, (x1, ())) = B_strings_IndexByte x0 x1 := by kernel_rfl

end Go.Proofs.Ytmhhodnackfhmaa
namespace Go.Proofs.Ytmhhodnackfhmaa
open Go Go.VM
def S_strings_IndexByte (x0 : ByteArray) (x1 : Int) : Int := S_stringslite_IndexByte x0 x1
theorem ok_strings_IndexByte (x0 : ByteArray) (x1 : Int) (hok : OkA I_strings_IndexByte.args (x0, x1, ())) : ∃ n, bodyE ty T_strings_IndexByte n I_strings_IndexByte (x0, x1, ()) = some (((S_strings_IndexByte x0 x1), ()), ((), (), ())) := ⟨0, by rw [B_strings_IndexByte_eq]; rfl⟩
noncomputable def E_strings_IndexByte : Entry Try.prog := Entry.of tok T_strings_IndexByte I_strings_IndexByte it_strings_IndexByte (fun (x0, x1, ()) => some (((S_strings_IndexByte x0 x1), ()), ((), (), ()))) (fun (x0, x1, ()) r hok h => by cases h; exact ok_strings_IndexByte x0 x1 hok)

end Go.Proofs.Ytmhhodnackfhmaa
namespace Go.Proofs.Ytmhhodnackfhmaa
open Go Go.VM
/-! ### etchhouse.netlist.IsWord -/
noncomputable def I_netlist_IsWord : Inst := ⟨54, Try.f54, .two (.reg []) (.two (.two (.reg []) (.one (.loop ⟨[(7, .pv i)], [], [0, 6], []⟩ (.two (.reg []) (.two (.two (.leaf) (.leaf)) (.two (.one (.two (.reg []) (.two (.reg []) (.two (.reg [(24, 0)]) (.two (.two (.reg []) (.leaf)) (.leaf)))))) (.reg []))))))) (.two (.reg []) (.leaf))), (.cons (.pv .str) .nil), (.cons .flat .bool .nil)⟩
theorem it_netlist_IsWord : InTab Try.prog I_netlist_IsWord := ⟨Try.func54, by kernel_rfl, rfl⟩
noncomputable def T_netlist_IsWord : Nat → Entry Try.prog := nth (Entry.no Try.f0) [E_strings_IndexByte]
noncomputable def B_netlist_IsWord (n : Nat) (x0 : ByteArray) : Option (((Bool × Unit) × (Unit × Unit))) :=
  loopN (fun rec1 => fun
  | ((v1aa, ()), ()) =>
    (bif decide ((v1aa < ((ByteArray.size x0 : Nat) : Int))) then
      (bif inB v1aa (ByteArray.size x0) then
        (bif decide ((strAt x0 v1aa.toNat < 65)) then
          (bif decide ((strAt x0 v1aa.toNat < 97)) then
            (bif decide ((strAt x0 v1aa.toNat < 48)) then
              (bif decide ((S_strings_IndexByte (strOf [95, 43, 45, 35]) (strAt x0 v1aa.toNat) < 0)) then
                some ((false, ()), ((), ()))
              else
                rec1 ((wrapI .i64 (v1aa + 1), ()), ()))
            else
              (bif decide ((57 < strAt x0 v1aa.toNat)) then
                (bif decide ((S_strings_IndexByte (strOf [95, 43, 45, 35]) (strAt x0 v1aa.toNat) < 0)) then
                  some ((false, ()), ((), ()))
                else
                  rec1 ((wrapI .i64 (v1aa + 1), ()), ()))
              else
                rec1 ((wrapI .i64 (v1aa + 1), ()), ())))
          else
            (bif decide ((122 < strAt x0 v1aa.toNat)) then
              (bif decide ((strAt x0 v1aa.toNat < 48)) then
                (bif decide ((S_strings_IndexByte (strOf [95, 43, 45, 35]) (strAt x0 v1aa.toNat) < 0)) then
                  some ((false, ()), ((), ()))
                else
                  rec1 ((wrapI .i64 (v1aa + 1), ()), ()))
              else
                (bif decide ((57 < strAt x0 v1aa.toNat)) then
                  (bif decide ((S_strings_IndexByte (strOf [95, 43, 45, 35]) (strAt x0 v1aa.toNat) < 0)) then
                    some ((false, ()), ((), ()))
                  else
                    rec1 ((wrapI .i64 (v1aa + 1), ()), ()))
                else
                  rec1 ((wrapI .i64 (v1aa + 1), ()), ())))
            else
              rec1 ((wrapI .i64 (v1aa + 1), ()), ())))
        else
          (bif decide ((90 < strAt x0 v1aa.toNat)) then
            (bif decide ((strAt x0 v1aa.toNat < 97)) then
              (bif decide ((strAt x0 v1aa.toNat < 48)) then
                (bif decide ((S_strings_IndexByte (strOf [95, 43, 45, 35]) (strAt x0 v1aa.toNat) < 0)) then
                  some ((false, ()), ((), ()))
                else
                  rec1 ((wrapI .i64 (v1aa + 1), ()), ()))
              else
                (bif decide ((57 < strAt x0 v1aa.toNat)) then
                  (bif decide ((S_strings_IndexByte (strOf [95, 43, 45, 35]) (strAt x0 v1aa.toNat) < 0)) then
                    some ((false, ()), ((), ()))
                  else
                    rec1 ((wrapI .i64 (v1aa + 1), ()), ()))
                else
                  rec1 ((wrapI .i64 (v1aa + 1), ()), ())))
            else
              (bif decide ((122 < strAt x0 v1aa.toNat)) then
                (bif decide ((strAt x0 v1aa.toNat < 48)) then
                  (bif decide ((S_strings_IndexByte (strOf [95, 43, 45, 35]) (strAt x0 v1aa.toNat) < 0)) then
                    some ((false, ()), ((), ()))
                  else
                    rec1 ((wrapI .i64 (v1aa + 1), ()), ()))
                else
                  (bif decide ((57 < strAt x0 v1aa.toNat)) then
                    (bif decide ((S_strings_IndexByte (strOf [95, 43, 45, 35]) (strAt x0 v1aa.toNat) < 0)) then
                      some ((false, ()), ((), ()))
                    else
                      rec1 ((wrapI .i64 (v1aa + 1), ()), ()))
                  else
                    rec1 ((wrapI .i64 (v1aa + 1), ()), ())))
              else
                rec1 ((wrapI .i64 (v1aa + 1), ()), ())))
          else
            rec1 ((wrapI .i64 (v1aa + 1), ()), ())))
      else
        none)
    else
      (bif decide ((1 ≤ ((ByteArray.size x0 : Nat) : Int))) then
        some ((decide ((((ByteArray.size x0 : Nat) : Int) ≤ 40)), ()), ((), ()))
      else
        some ((false, ()), ((), ())))))
  n ((0, ()), ())
theorem B_netlist_IsWord_eq (n : Nat) (x0 : ByteArray) : bodyE ty T_netlist_IsWord n I_netlist_IsWord (x0, ()) = B_netlist_IsWord n x0 := by kernel_rfl

end Go.Proofs.Ytmhhodnackfhmaa
namespace Go.Proofs.Ytmhhodnackfhmaa
open Go Go.VM
theorem ok_netlist_IsWord (x0 : ByteArray) (hok : OkA I_netlist_IsWord.args (x0, ())) : ∃ n, bodyE ty T_netlist_IsWord n I_netlist_IsWord (x0, ()) = some ((S_word x0, ()), ((), ())) := ⟨ByteArray.size x0 + 1, by
  have hl : ByteArray.size x0 ≤ maxLen := hok.1
  rw [B_netlist_IsWord_eq]
  unfold B_netlist_IsWord S_word
  refine (loop_list (l := x0.data.toList) (fun i (_ : Unit) => ((i, ()), ())) (fun a i _ => bif okB (a.toNat : Int) then .inl () else .inr (some ((false, ()), ((), ())))) (fun _ => some ((decide (1 ≤ ((ByteArray.size x0 : Nat) : Int)) && decide (((ByteArray.size x0 : Nat) : Int) ≤ 40), ()), ((), ()))) (fun i h s rec => ?_) (fun s rec => ?_) (Nat.lt_succ_self _) ()).trans ?_
  · have h' : i < ByteArray.size x0 := h
    simp only [lt_nat h', inB_nat h', strAt_nat h, succ64 h' hl, cond_true]
    generalize (x0.data.toList[i].toNat : Int) = c
    unfold okB
    simp only [show ∀ a b, S_strings_IndexByte a b = S_idx a b from fun _ _ => rfl]
    cases decide (c < 65) <;> cases decide (90 < c) <;> cases decide (c < 97) <;> cases decide (122 < c) <;> cases decide (c < 48) <;> cases decide (57 < c) <;> cases decide (S_idx (strOf [95, 43, 45, 35]) c < 0) <;> rfl
  · rw [← size_list]
    simp only [lt_self, cond_false]
    cases decide (1 ≤ ((ByteArray.size x0 : Nat) : Int)) <;> rfl
  · rw [all_go]
    cases x0.data.toList.all fun b => okB (b.toNat : Int) <;> rfl⟩
noncomputable def E_netlist_IsWord : Entry Try.prog := Entry.of tok T_netlist_IsWord I_netlist_IsWord it_netlist_IsWord (fun (x0, ()) => some ((S_word x0, ()), ((), ()))) (fun (x0, ()) r hok h => by cases h; exact ok_netlist_IsWord x0 hok)

end Go.Proofs.Ytmhhodnackfhmaa
namespace Go.Proofs.Ytmhhodnackfhmaa
open Go Go.VM
/-! ### etchhouse.drill.within -/
noncomputable def I_drill_within : Inst := ⟨36, Try.f36, .two (.reg []) (.two (.reg []) (.leaf)), (.cons (.pv i) (.cons (.pv i) (.cons (.pv i) .nil))), (.cons .flat .bool .nil)⟩
theorem it_drill_within : InTab Try.prog I_drill_within := ⟨Try.func36, by kernel_rfl, rfl⟩
noncomputable def T_drill_within : Nat → Entry Try.prog := nth (Entry.no Try.f0) []
noncomputable def B_drill_within (x0 : Int) (x1 : Int) (x2 : Int) : Option (((Bool × Unit) × (Unit × (Unit × (Unit × Unit))))) :=
  (bif decide ((x1 ≤ x0)) then
    some ((decide ((x0 ≤ x2)), ()), ((), ((), ((), ()))))
  else
    some ((false, ()), ((), ((), ((), ())))))
theorem B_drill_within_eq (n : Nat) (x0 : Int) (x1 : Int) (x2 : Int) : bodyE ty T_drill_within n I_drill_within (x0, (x1, (x2, ()))) = B_drill_within x0 x1 x2 := by kernel_rfl

end Go.Proofs.Ytmhhodnackfhmaa
namespace Go.Proofs.Ytmhhodnackfhmaa
open Go Go.VM
theorem ok_drill_within (x0 x1 x2 : Int) (hok : OkA I_drill_within.args (x0, x1, x2, ())) : ∃ n, bodyE ty T_drill_within n I_drill_within (x0, x1, x2, ()) = some ((S_within x0 x1 x2, ()), ((), (), (), ())) := ⟨0, by
  rw [B_drill_within_eq]; unfold B_drill_within S_within; cases decide (x1 ≤ x0) <;> rfl⟩
noncomputable def E_drill_within : Entry Try.prog := Entry.of tok T_drill_within I_drill_within it_drill_within (fun (x0, x1, x2, ()) => some ((S_within x0 x1 x2, ()), ((), (), (), ()))) (fun (x0, x1, x2, ()) r hok h => by cases h; exact ok_drill_within x0 x1 x2 hok)

end Go.Proofs.Ytmhhodnackfhmaa
namespace Go.Proofs.Ytmhhodnackfhmaa
open Go Go.VM
/-! ### etchhouse.drill.CheckTools -/
noncomputable def I_drill_CheckTools : Inst := ⟨32, Try.f32, .two (.reg []) (.two (.two (.reg []) (.two (.two (.reg []) (.leaf)) (.leaf))) (.two (.two (.reg []) (.one (.loop ⟨[(10, .pv i)], [], [0, 8, 9], []⟩ (.two (.reg []) (.two (.two (.leaf) (.leaf)) (.two (.one (.two (.reg []) (.one (.two (.reg [(2, 0)]) (.two (.two (.reg []) (.leaf)) (.two (.reg [(2, 1), (7, 1), (13, 1)]) (.two (.two (.reg []) (.leaf)) (.two (.draw [] [0, 1, 2, 3, 4, 5, 6, 7, 8, 9, 10, 11, 12, 13] [4]) (.two (.two (.reg []) (.leaf)) (.leaf)))))))))) (.reg []))))))) (.two (.reg []) (.leaf)))), (.cons (.pv (.sl (.pair .str (.pair i (.pair i (.pair i .unit)))))) .nil), (.cons .flat i .nil)⟩
theorem it_drill_CheckTools : InTab Try.prog I_drill_CheckTools := ⟨Try.func32, by kernel_rfl, rfl⟩
noncomputable def T_drill_CheckTools : Nat → Entry Try.prog := nth (Entry.no Try.f0) [E_netlist_IsWord, E_drill_within]
noncomputable def B_drill_CheckTools (n : Nat) (x0 : List (ByteArray × (Int × (Int × (Int × Unit))))) : Option (((Int × Unit) × (Unit × Unit))) :=
  (bif decide ((100 < ((x0.length : Nat) : Int))) then
    some ((2, ()), ((), ()))
  else
    loopN (fun rec1 => fun
    | ((v1aa, ()), ()) =>
      (bif decide ((v1aa < ((x0.length : Nat) : Int))) then
        (bif inB v1aa x0.length then
          (bif (!(S_word ((x0.getD v1aa.toNat ((strOf []), (0, (0, (0, ()))))).1))) then
            some ((5, ()), ((), ()))
          else
            (bif (!(S_within (((x0.getD v1aa.toNat ((strOf []), (0, (0, (0, ()))))).2).1) 1 10000)) then
              some ((1, ()), ((), ()))
            else
              (bif (!(S_within ((((x0.getD v1aa.toNat ((strOf []), (0, (0, (0, ()))))).2).2).1) 1 2000)) then
                some ((1, ()), ((), ()))
              else
                (bif (!(S_within (((((x0.getD v1aa.toNat ((strOf []), (0, (0, (0, ()))))).2).2).2).1) 0 1000)) then
                  some ((1, ()), ((), ()))
                else
                  (bif decide ((0 < v1aa)) then
                    (bif inB (wrapI .i64 (v1aa - 1)) x0.length then
                      (bif (Op.bytesLess (ByteArray.toList ((x0.getD v1aa.toNat ((strOf []), (0, (0, (0, ()))))).1)) (ByteArray.toList ((x0.getD ((wrapI .i64 (v1aa - 1)).toNat) ((strOf []), (0, (0, (0, ()))))).1)) || decide ((ByteArray.toList ((x0.getD v1aa.toNat ((strOf []), (0, (0, (0, ()))))).1) = ByteArray.toList ((x0.getD ((wrapI .i64 (v1aa - 1)).toNat) ((strOf []), (0, (0, (0, ()))))).1)))) then
                        some ((8, ()), ((), ()))
                      else
                        rec1 ((wrapI .i64 (v1aa + 1), ()), ()))
                    else
                      none)
                  else
                    rec1 ((wrapI .i64 (v1aa + 1), ()), ()))))))
        else
          none)
      else
        some ((0, ()), ((), ()))))
    n ((0, ()), ()))
theorem B_drill_CheckTools_eq (n : Nat) (x0 : List (ByteArray × (Int × (Int × (Int × Unit))))) : bodyE ty T_drill_CheckTools n I_drill_CheckTools (x0, ()) = B_drill_CheckTools n x0 := by kernel_rfl

end Go.Proofs.Ytmhhodnackfhmaa
namespace Go.Proofs.Ytmhhodnackfhmaa
open Go Go.VM
theorem ok_drill_CheckTools (x0 : List Mat) (hok : OkA I_drill_CheckTools.args (x0, ())) : ∃ n, bodyE ty T_drill_CheckTools n I_drill_CheckTools (x0, ()) = some ((S_chkT x0, ()), ((), ())) := ⟨x0.length + 1, by
  have hl : x0.length ≤ maxLen := hok.1.1
  rw [B_drill_CheckTools_eq]
  unfold B_drill_CheckTools
  exact chkT_loop (R := fun a => some ((a, ()), ((), ()))) hl (Nat.lt_succ_self _)⟩
noncomputable def E_drill_CheckTools : Entry Try.prog := Entry.of tok T_drill_CheckTools I_drill_CheckTools it_drill_CheckTools (fun (x0, ()) => some ((S_chkT x0, ()), ((), ()))) (fun (x0, ()) r hok h => by cases h; exact ok_drill_CheckTools x0 hok)

end Go.Proofs.Ytmhhodnackfhmaa
namespace Go.Proofs.Ytmhhodnackfhmaa
open Go Go.VM
/-! ### etchhouse.shape.within -/
noncomputable def I_shape_within : Inst := ⟨73, Try.f73, .two (.reg []) (.two (.reg []) (.leaf)), (.cons (.pv i) (.cons (.pv i) (.cons (.pv i) .nil))), (.cons .flat .bool .nil)⟩
theorem it_shape_within : InTab Try.prog I_shape_within := ⟨Try.func73, by kernel_rfl, rfl⟩
noncomputable def T_shape_within : Nat → Entry Try.prog := nth (Entry.no Try.f0) []
noncomputable def B_shape_within (x0 : Int) (x1 : Int) (x2 : Int) : Option (((Bool × Unit) × (Unit × (Unit × (Unit × Unit))))) :=
  (bif decide ((x1 ≤ x0)) then
    some ((decide ((x0 ≤ x2)), ()), ((), ((), ((), ()))))
  else
    some ((false, ()), ((), ((), ((), ())))))
theorem B_shape_within_eq (n : Nat) (x0 : Int) (x1 : Int) (x2 : Int) : bodyE ty T_shape_within n I_shape_within (x0, (x1, (x2, ()))) = B_shape_within x0 x1 x2 := by kernel_rfl

end Go.Proofs.Ytmhhodnackfhmaa
namespace Go.Proofs.Ytmhhodnackfhmaa
open Go Go.VM
theorem ok_shape_within (x0 x1 x2 : Int) (hok : OkA I_shape_within.args (x0, x1, x2, ())) : ∃ n, bodyE ty T_shape_within n I_shape_within (x0, x1, x2, ()) = some ((S_within x0 x1 x2, ()), ((), (), (), ())) := ⟨0, by
  rw [B_shape_within_eq]; unfold B_shape_within S_within; cases decide (x1 ≤ x0) <;> rfl⟩
noncomputable def E_shape_within : Entry Try.prog := Entry.of tok T_shape_within I_shape_within it_shape_within (fun (x0, x1, x2, ()) => some ((S_within x0 x1 x2, ()), ((), (), (), ()))) (fun (x0, x1, x2, ()) r hok h => by cases h; exact ok_shape_within x0 x1 x2 hok)

end Go.Proofs.Ytmhhodnackfhmaa
namespace Go.Proofs.Ytmhhodnackfhmaa
open Go Go.VM
/-! ### etchhouse.shape.IsAt -/
noncomputable def I_shape_IsAt : Inst := ⟨61, Try.f61, .two (.reg []) (.two (.reg [(1, 0)]) (.leaf)), (.cons (.pv i) .nil), (.cons .flat .bool .nil)⟩
theorem it_shape_IsAt : InTab Try.prog I_shape_IsAt := ⟨Try.func61, by kernel_rfl, rfl⟩
noncomputable def T_shape_IsAt : Nat → Entry Try.prog := nth (Entry.no Try.f0) [E_shape_within]
noncomputable def B_shape_IsAt (x0 : Int) : Option (((Bool × Unit) × (Unit × Unit))) :=
  some ((S_within x0 (-1000000) 1000000, ()), ((), ()))
theorem B_shape_IsAt_eq (n : Nat) (x0 : Int) : bodyE ty T_shape_IsAt n I_shape_IsAt (x0, ()) = B_shape_IsAt x0 := by kernel_rfl

end Go.Proofs.Ytmhhodnackfhmaa
namespace Go.Proofs.Ytmhhodnackfhmaa
open Go Go.VM
theorem ok_shape_IsAt (x0 : Int) (hok : OkA I_shape_IsAt.args (x0, ())) : ∃ n, bodyE ty T_shape_IsAt n I_shape_IsAt (x0, ()) = some ((S_within x0 (-1000000) 1000000, ()), ((), ())) := ⟨0, by rw [B_shape_IsAt_eq]; rfl⟩
noncomputable def E_shape_IsAt : Entry Try.prog := Entry.of tok T_shape_IsAt I_shape_IsAt it_shape_IsAt (fun (x0, ()) => some ((S_within x0 (-1000000) 1000000, ()), ((), ()))) (fun (x0, ()) r hok h => by cases h; exact ok_shape_IsAt x0 hok)

end Go.Proofs.Ytmhhodnackfhmaa
namespace Go.Proofs.Ytmhhodnackfhmaa
open Go Go.VM
/-! ### etchhouse.shape.IsPoint -/
noncomputable def I_shape_IsPoint : Inst := ⟨42, Try.f42, .two (.reg []) (.two (.reg [(2, 0), (6, 0)]) (.leaf)), (.cons (.pv (.pair i (.pair i .unit))) .nil), (.cons .flat .bool .nil)⟩
theorem it_shape_IsPoint : InTab Try.prog I_shape_IsPoint := ⟨Try.func42, by kernel_rfl, rfl⟩
noncomputable def T_shape_IsPoint : Nat → Entry Try.prog := nth (Entry.no Try.f0) [E_shape_IsAt]
noncomputable def B_shape_IsPoint (x0 : (Int × (Int × Unit))) : Option (((Bool × Unit) × (Unit × Unit))) :=
  (bif S_within x0.1 (-1000000) 1000000 then
    some ((S_within x0.2.1 (-1000000) 1000000, ()), ((), ()))
  else
    some ((false, ()), ((), ())))
theorem B_shape_IsPoint_eq (n : Nat) (x0 : (Int × (Int × Unit))) : bodyE ty T_shape_IsPoint n I_shape_IsPoint (x0, ()) = B_shape_IsPoint x0 := by kernel_rfl

end Go.Proofs.Ytmhhodnackfhmaa
namespace Go.Proofs.Ytmhhodnackfhmaa
open Go Go.VM
def S_isPt (p : Int × Int × Unit) : Bool := S_within p.1 (-1000000) 1000000 && S_within p.2.1 (-1000000) 1000000
theorem ok_shape_IsPoint (x0 : Int × Int × Unit) (hok : OkA I_shape_IsPoint.args (x0, ())) : ∃ n, bodyE ty T_shape_IsPoint n I_shape_IsPoint (x0, ()) = some ((S_isPt x0, ()), ((), ())) := ⟨0, by
  rw [B_shape_IsPoint_eq]; unfold B_shape_IsPoint S_isPt; cases S_within x0.1 (-1000000) 1000000 <;> rfl⟩
noncomputable def E_shape_IsPoint : Entry Try.prog := Entry.of tok T_shape_IsPoint I_shape_IsPoint it_shape_IsPoint (fun (x0, ()) => some ((S_isPt x0, ()), ((), ()))) (fun (x0, ()) r hok h => by cases h; exact ok_shape_IsPoint x0 hok)

end Go.Proofs.Ytmhhodnackfhmaa
namespace Go.Proofs.Ytmhhodnackfhmaa
open Go Go.VM
/-! ### etchhouse.drill.CheckHoles -/
noncomputable def I_drill_CheckHoles : Inst := ⟨30, Try.f30, .two (.reg []) (.two (.two (.reg []) (.two (.two (.reg []) (.leaf)) (.leaf))) (.two (.two (.reg []) (.one (.loop ⟨[(10, .pv i)], [], [8, 9], []⟩ (.two (.reg []) (.two (.two (.leaf) (.leaf)) (.two (.one (.two (.reg []) (.two (.reg [(2, 0), (7, 1), (13, 1)]) (.two (.two (.reg []) (.leaf)) (.leaf))))) (.reg []))))))) (.two (.reg []) (.leaf)))), (.cons (.pv (.sl (.pair (.pair i (.pair i .unit)) (.pair i (.pair i (.pair .bool .unit)))))) .nil), (.cons .flat i .nil)⟩
theorem it_drill_CheckHoles : InTab Try.prog I_drill_CheckHoles := ⟨Try.func30, by kernel_rfl, rfl⟩
noncomputable def T_drill_CheckHoles : Nat → Entry Try.prog := nth (Entry.no Try.f0) [E_shape_IsPoint, E_drill_within]
noncomputable def B_drill_CheckHoles (n : Nat) (x0 : List ((Int × (Int × Unit)) × (Int × (Int × (Bool × Unit))))) : Option (((Int × Unit) × (Unit × Unit))) :=
  (bif decide ((2000 < ((x0.length : Nat) : Int))) then
    some ((2, ()), ((), ()))
  else
    loopN (fun rec1 => fun
    | ((v1aa, ()), ()) =>
      (bif decide ((v1aa < ((x0.length : Nat) : Int))) then
        (bif inB v1aa x0.length then
          (bif (!(S_isPt ((x0.getD v1aa.toNat ((0, (0, ())), (0, (0, (false, ()))))).1))) then
            some ((1, ()), ((), ()))
          else
            (bif (!(S_within (((x0.getD v1aa.toNat ((0, (0, ())), (0, (0, (false, ()))))).2).1) 1 10000)) then
              some ((1, ()), ((), ()))
            else
              (bif (!(S_within ((((x0.getD v1aa.toNat ((0, (0, ())), (0, (0, (false, ()))))).2).2).1) 1 100000)) then
                some ((1, ()), ((), ()))
              else
                rec1 ((wrapI .i64 (v1aa + 1), ()), ()))))
        else
          none)
      else
        some ((0, ()), ((), ()))))
    n ((0, ()), ()))
theorem B_drill_CheckHoles_eq (n : Nat) (x0 : List ((Int × (Int × Unit)) × (Int × (Int × (Bool × Unit))))) : bodyE ty T_drill_CheckHoles n I_drill_CheckHoles (x0, ()) = B_drill_CheckHoles n x0 := by kernel_rfl

end Go.Proofs.Ytmhhodnackfhmaa
namespace Go.Proofs.Ytmhhodnackfhmaa
open Go Go.VM
def S_hole (h : Hole) : Bool := S_isPt h.1 && (S_within h.2.1 1 10000 && S_within h.2.2.1 1 100000)
def S_chkH (l : List Hole) : Int := bif decide ((2000 : Int) < (l.length : Int)) then 2 else bif l.all S_hole then 0 else 1
theorem ok_drill_CheckHoles (x0 : List Hole) (hok : OkA I_drill_CheckHoles.args (x0, ())) : ∃ n, bodyE ty T_drill_CheckHoles n I_drill_CheckHoles (x0, ()) = some ((S_chkH x0, ()), ((), ())) := ⟨x0.length + 1, by
  obtain ⟨⟨hl, _⟩, _⟩ := hok
  rw [B_drill_CheckHoles_eq]
  unfold B_drill_CheckHoles S_chkH
  cases hd : decide ((2000 : Int) < (x0.length : Int)) with
  | true => rfl
  | false =>
    simp only [cond_false]
    refine (loop_list (l := x0) (fun i (_ : Unit) => ((i, ()), ())) (fun a i _ => bif S_hole a then .inl () else .inr (some ((1, ()), ((), ())))) (fun _ => some ((0, ()), ((), ()))) (fun i h s rec => ?_) (fun s rec => ?_) (Nat.lt_succ_self _) ()).trans ?_
    · simp only [lt_nat h, inB_nat h, getD_lt h, succ64 h hl, cond_true, S_hole]
      cases S_isPt x0[i].1 <;> cases S_within x0[i].2.1 1 10000 <;> cases S_within x0[i].2.2.1 1 100000 <;> rfl
    · simp only [lt_self, cond_false]
    · rw [goL_all]
      cases x0.all S_hole <;> rfl⟩
noncomputable def E_drill_CheckHoles : Entry Try.prog := Entry.of tok T_drill_CheckHoles I_drill_CheckHoles it_drill_CheckHoles (fun (x0, ()) => some ((S_chkH x0, ()), ((), ()))) (fun (x0, ()) r hok h => by cases h; exact ok_drill_CheckHoles x0 hok)

end Go.Proofs.Ytmhhodnackfhmaa
namespace Go.Proofs.Ytmhhodnackfhmaa
open Go Go.VM
/-! ### etchhouse.drill.toolFor$1 -/
noncomputable def I_drill_toolFor_1_io : Inst := ⟨57, Try.f57, .two (.reg []) (.two (.reg []) (.leaf)), (.cons (.pv (.pair .str (.pair i (.pair i (.pair i .unit))))) (.cons (.io .flat i) .nil)), (.cons .flat i .nil)⟩
theorem it_drill_toolFor_1_io : InTab Try.prog I_drill_toolFor_1_io := ⟨Try.func57, by kernel_rfl, rfl⟩
noncomputable def T_drill_toolFor_1_io : Nat → Entry Try.prog := nth (Entry.no Try.f0) []
noncomputable def B_drill_toolFor_1_io (x0 : (ByteArray × (Int × (Int × (Int × Unit))))) (x1 : Int) : Option (((Int × Unit) × (Unit × (Int × Unit)))) :=
  some (((bif decide ((wrapI .i64 (x0.2.1 - x1) < wrapI .i64 (x1 - x0.2.1))) then wrapI .i64 (x1 - x0.2.1) else wrapI .i64 (x0.2.1 - x1)), ()), ((), (x1, ())))
theorem B_drill_toolFor_1_io_eq (n : Nat) (x0 : (ByteArray × (Int × (Int × (Int × Unit))))) (x1 : Int) : bodyE ty T_drill_toolFor_1_io n I_drill_toolFor_1_io (x0, (x1, ())) = B_drill_toolFor_1_io x0 x1 := by kernel_rfl

end Go.Proofs.Ytmhhodnackfhmaa
namespace Go.Proofs.Ytmhhodnackfhmaa
open Go Go.VM
theorem ok_drill_toolFor_1_io (x0 : Mat) (x1 : Int) (hok : OkA I_drill_toolFor_1_io.args (x0, x1, ())) : ∃ n, bodyE ty T_drill_toolFor_1_io n I_drill_toolFor_1_io (x0, x1, ()) = some ((S_off x0 x1, ()), ((), x1, ())) := ⟨0, by rw [B_drill_toolFor_1_io_eq]; rfl⟩
noncomputable def E_drill_toolFor_1_io : Entry Try.prog := Entry.of tok T_drill_toolFor_1_io I_drill_toolFor_1_io it_drill_toolFor_1_io (fun (x0, x1, ()) => some ((S_off x0 x1, ()), ((), x1, ()))) (fun (x0, x1, ()) r hok h => by cases h; exact ok_drill_toolFor_1_io x0 x1 hok)

end Go.Proofs.Ytmhhodnackfhmaa
namespace Go.Proofs.Ytmhhodnackfhmaa
open Go Go.VM
/-! ### cmp.isNaN[int] -/
noncomputable def I_cmp_isNaN_int : Inst := ⟨72, Try.f72, .two (.reg []) (.two (.reg []) (.leaf)), (.cons (.pv i) .nil), (.cons .flat .bool .nil)⟩
theorem it_cmp_isNaN_int : InTab Try.prog I_cmp_isNaN_int := ⟨Try.func72, by kernel_rfl, rfl⟩
noncomputable def T_cmp_isNaN_int : Nat → Entry Try.prog := nth (Entry.no Try.f0) []
noncomputable def B_cmp_isNaN_int (x0 : Int) : Option (((Bool × Unit) × (Unit × Unit))) :=
  some (((!(decide ((x0 = x0)))), ()), ((), ()))
theorem B_cmp_isNaN_int_eq (n : Nat) (x0 : Int) : bodyE ty T_cmp_isNaN_int n I_cmp_isNaN_int (x0, ()) = B_cmp_isNaN_int x0 := by kernel_rfl

end Go.Proofs.Ytmhhodnackfhmaa
namespace Go.Proofs.Ytmhhodnackfhmaa
open Go Go.VM
def S_cmp_isNaN_int (x0 : Int) : Bool := (!(decide ((x0 = x0))))
theorem ok_cmp_isNaN_int (x0 : Int) (hok : OkA I_cmp_isNaN_int.args (x0, ())) : ∃ n, bodyE ty T_cmp_isNaN_int n I_cmp_isNaN_int (x0, ()) = some (((S_cmp_isNaN_int x0), ()), ((), ())) := ⟨0, by rw [B_cmp_isNaN_int_eq]; rfl⟩
noncomputable def E_cmp_isNaN_int : Entry Try.prog := Entry.of tok T_cmp_isNaN_int I_cmp_isNaN_int it_cmp_isNaN_int (fun (x0, ()) => some (((S_cmp_isNaN_int x0), ()), ((), ()))) (fun (x0, ()) r hok h => by cases h; exact ok_cmp_isNaN_int x0 hok)

end Go.Proofs.Ytmhhodnackfhmaa
namespace Go.Proofs.Ytmhhodnackfhmaa
open Go Go.VM
/-! ### cmp.Compare[int] -/
noncomputable def I_cmp_Compare_int : Inst := ⟨59, Try.f59, .two (.reg []) (.two (.reg [(1, 0)]) (.two (.reg [(1, 0)]) (.two (.two (.reg []) (.two (.two (.two (.reg []) (.two (.two (.reg []) (.leaf)) (.leaf))) (.two (.reg []) (.leaf))) (.leaf))) (.two (.two (.reg []) (.two (.two (.reg []) (.leaf)) (.leaf))) (.two (.two (.reg []) (.two (.two (.reg []) (.leaf)) (.leaf))) (.two (.two (.reg []) (.two (.two (.reg []) (.leaf)) (.leaf))) (.two (.reg []) (.leaf)))))))), (.cons (.pv i) (.cons (.pv i) .nil)), (.cons .flat i .nil)⟩
theorem it_cmp_Compare_int : InTab Try.prog I_cmp_Compare_int := ⟨Try.func59, by kernel_rfl, rfl⟩
noncomputable def T_cmp_Compare_int : Nat → Entry Try.prog := nth (Entry.no Try.f0) [E_cmp_isNaN_int]
noncomputable def B_cmp_Compare_int (x0 : Int) (x1 : Int) : Option (((Int × Unit) × (Unit × (Unit × Unit)))) :=
  (bif S_cmp_isNaN_int x0 then
    (bif S_cmp_isNaN_int x1 then
      some ((0, ()), ((), ((), ())))
    else
      some (((-1), ()), ((), ((), ()))))
  else
    (bif S_cmp_isNaN_int x1 then
      some ((1, ()), ((), ((), ())))
    else
      (bif decide ((x0 < x1)) then
        some (((-1), ()), ((), ((), ())))
      else
        (bif decide ((x1 < x0)) then
          some ((1, ()), ((), ((), ())))
        else
          some ((0, ()), ((), ((), ())))))))
theorem B_cmp_Compare_int_eq (n : Nat) (x0 : Int) (x1 : Int) : bodyE ty T_cmp_Compare_int n I_cmp_Compare_int (x0, (x1, ())) = B_cmp_Compare_int x0 x1 := by kernel_rfl

end Go.Proofs.Ytmhhodnackfhmaa
namespace Go.Proofs.Ytmhhodnackfhmaa
open Go Go.VM
theorem ok_cmp_Compare_int (x0 x1 : Int) (hok : OkA I_cmp_Compare_int.args (x0, x1, ())) : ∃ n, bodyE ty T_cmp_Compare_int n I_cmp_Compare_int (x0, x1, ()) = some ((S_cmpI x0 x1, ()), ((), (), ())) := ⟨0, by
  rw [B_cmp_Compare_int_eq]
  have e : ∀ x, S_cmp_isNaN_int x = false := fun x => by unfold S_cmp_isNaN_int; simp
  unfold B_cmp_Compare_int S_cmpI
  rw [e, e]
  cases decide (x0 < x1) <;> cases decide (x1 < x0) <;> rfl⟩
noncomputable def E_cmp_Compare_int : Entry Try.prog := Entry.of tok T_cmp_Compare_int I_cmp_Compare_int it_cmp_Compare_int (fun (x0, x1, ()) => some ((S_cmpI x0 x1, ()), ((), (), ()))) (fun (x0, x1, ()) r hok h => by cases h; exact ok_cmp_Compare_int x0 x1 hok)

end Go.Proofs.Ytmhhodnackfhmaa
namespace Go.Proofs.Ytmhhodnackfhmaa
open Go Go.VM
/-! ### cmp.Or[int] -/
noncomputable def I_cmp_Or_int : Inst := ⟨58, Try.f58, .two (.reg []) (.two (.reg []) (.two (.two (.reg []) (.one (.loop ⟨[(8, .pv i)], [], [3, 6, 7], []⟩ (.two (.reg []) (.two (.two (.leaf) (.leaf)) (.two (.one (.two (.reg []) (.two (.reg []) (.two (.two (.reg []) (.leaf)) (.leaf))))) (.reg []))))))) (.two (.reg []) (.leaf)))), (.cons (.pv (.sl i)) .nil), (.cons .flat i .nil)⟩
theorem it_cmp_Or_int : InTab Try.prog I_cmp_Or_int := ⟨Try.func58, by kernel_rfl, rfl⟩
noncomputable def T_cmp_Or_int : Nat → Entry Try.prog := nth (Entry.no Try.f0) []
noncomputable def B_cmp_Or_int (n : Nat) (x0 : List Int) : Option (((Int × Unit) × (Unit × Unit))) :=
  loopN (fun rec1 => fun
  | ((v1aa, ()), ()) =>
    (bif decide ((v1aa < ((x0.length : Nat) : Int))) then
      (bif inB v1aa x0.length then
        (bif (!(decide ((x0.getD v1aa.toNat (0 : Int) = 0)))) then
          some ((x0.getD v1aa.toNat (0 : Int), ()), ((), ()))
        else
          rec1 ((wrapI .i64 (v1aa + 1), ()), ()))
      else
        none)
    else
      some ((0, ()), ((), ()))))
  n ((0, ()), ())
theorem B_cmp_Or_int_eq (n : Nat) (x0 : List Int) : bodyE ty T_cmp_Or_int n I_cmp_Or_int (x0, ()) = B_cmp_Or_int n x0 := by kernel_rfl

end Go.Proofs.Ytmhhodnackfhmaa
namespace Go.Proofs.Ytmhhodnackfhmaa
open Go Go.VM
def S_or : List Int → Int
  | [] => 0
  | a :: r => bif decide (a = 0) then S_or r else a
theorem or_go {A : Type} {R : Int → A} : ∀ (l : List Int) (i : Nat), goL (fun (a : Int) (_ : Nat) (_ : Unit) => bif decide (a = 0) then .inl () else .inr (some (R a))) (fun _ => some (R 0)) l i () = some (R (S_or l))
  | [], _ => rfl
  | a :: r, i => by
    simp only [goL, S_or]
    cases decide (a = 0) with
    | true => exact or_go r (i + 1)
    | false => rfl
theorem ok_cmp_Or_int (x0 : List Int) (hok : OkA I_cmp_Or_int.args (x0, ())) : ∃ n, bodyE ty T_cmp_Or_int n I_cmp_Or_int (x0, ()) = some ((S_or x0, ()), ((), ())) := ⟨x0.length + 1, by
  have hl : x0.length ≤ maxLen := hok.1.1
  rw [B_cmp_Or_int_eq]
  unfold B_cmp_Or_int
  refine (loop_list (l := x0) (fun i (_ : Unit) => ((i, ()), ())) (fun a _ _ => bif decide (a = 0) then .inl () else .inr (some ((a, ()), ((), ())))) (fun _ => some ((0, ()), ((), ()))) (fun i h s rec => ?_) (fun s rec => by simp only [lt_self, cond_false]) (Nat.lt_succ_self _) ()).trans (or_go (R := fun a => ((a, ()), ((), ()))) x0 0)
  simp only [lt_nat h, inB_nat h, getD_at h, succ64 h hl, cond_true, Int.toNat_natCast]
  cases decide (x0[i] = 0) <;> rfl⟩
noncomputable def E_cmp_Or_int : Entry Try.prog := Entry.of tok T_cmp_Or_int I_cmp_Or_int it_cmp_Or_int (fun (x0, ()) => some ((S_or x0, ()), ((), ()))) (fun (x0, ()) r hok h => by cases h; exact ok_cmp_Or_int x0 hok)

end Go.Proofs.Ytmhhodnackfhmaa
namespace Go.Proofs.Ytmhhodnackfhmaa
open Go Go.VM
/-! ### etchhouse.drill.toolFor -/
noncomputable def I_drill_toolFor : Inst := ⟨37, Try.f37, .two (.reg []) (.two (.reg []) (.two (.reg []) (.two (.two (.reg []) (.one (.loop ⟨[(8, .pv i), (14, .pv i)], [(4, ⟨.flat, i, true, false⟩)], [0, 2, 7, 12, 13], []⟩ (.two (.reg []) (.two (.two (.leaf) (.leaf)) (.two (.one (.two (.reg []) (.two (.draw [(2, 0), (11, 0), (17, 0), (18, 1), (26, 1), (28, 2)] [0, 1, 3, 2, 4, 5, 6, 7, 8, 9, 10, 12, 13, 14, 15, 16, 19, 20, 21, 22, 23, 24, 25, 11, 17, 18, 26, 27, 28, 29, 30, 31] [10, 4]) (.two (.reg []) (.leaf))))) (.reg []))))))) (.two (.reg []) (.leaf))))), (.cons (.pv (.sl (.pair .str (.pair i (.pair i (.pair i .unit)))))) (.cons (.pv i) (.cons (.pv i) .nil))), (.cons .flat i .nil)⟩
theorem it_drill_toolFor : InTab Try.prog I_drill_toolFor := ⟨Try.func37, by kernel_rfl, rfl⟩
noncomputable def T_drill_toolFor : Nat → Entry Try.prog := nth (Entry.no Try.f0) [E_drill_toolFor_1_io, E_cmp_Compare_int, E_cmp_Or_int]
noncomputable def B_drill_toolFor (n : Nat) (x0 : List (ByteArray × (Int × (Int × (Int × Unit))))) (x1 : Int) (x2 : Int) : Option (((Int × Unit) × (Unit × (Unit × (Unit × Unit))))) :=
  loopN (fun rec1 => fun
  | ((v1aa, (v1aba, ())), (v1ba, ())) =>
    (bif decide ((v1aba < ((x0.length : Nat) : Int))) then
      (bif inB v1aba x0.length then
        (bif decide ((S_off (x0.getD v1aba.toNat ((strOf []), (0, (0, (0, ()))))) v1ba ≤ x2)) then
          (bif decide ((v1aa < 0)) then
            rec1 ((v1aba, (wrapI .i64 (v1aba + 1), ())), (v1ba, ()))
          else
            (bif inB v1aa x0.length then
              (bif inB v1aa x0.length then
                (bif decide ((((S_or ([S_cmpI (S_off (x0.getD v1aba.toNat ((strOf []), (0, (0, (0, ()))))) v1ba) (S_off (x0.getD v1aa.toNat ((strOf []), (0, (0, (0, ()))))) v1ba), S_cmpI (((x0.getD v1aa.toNat ((strOf []), (0, (0, (0, ()))))).2).1) (((x0.getD v1aba.toNat ((strOf []), (0, (0, (0, ()))))).2).1)])) : Int) < 0)) then
                  rec1 ((v1aba, (wrapI .i64 (v1aba + 1), ())), (v1ba, ()))
                else
                  rec1 ((v1aa, (wrapI .i64 (v1aba + 1), ())), (v1ba, ())))
              else
                none)
            else
              none))
        else
          rec1 ((v1aa, (wrapI .i64 (v1aba + 1), ())), (v1ba, ())))
      else
        none)
    else
      some ((v1aa, ()), ((), ((), ((), ()))))))
  n (((-1), (0, ())), (x1, ()))
theorem B_drill_toolFor_eq (n : Nat) (x0 : List (ByteArray × (Int × (Int × (Int × Unit))))) (x1 : Int) (x2 : Int) : bodyE ty T_drill_toolFor n I_drill_toolFor (x0, (x1, (x2, ()))) = B_drill_toolFor n x0 x1 x2 := by kernel_rfl

end Go.Proofs.Ytmhhodnackfhmaa
namespace Go.Proofs.Ytmhhodnackfhmaa
open Go Go.VM
def S_toolP (t : List Mat) (size near : Int) : Int := S_tf (fun a => S_off a size) t near
theorem or_two (a b : Int) : S_or [a, b] = bif decide (a = 0) then (bif decide (b = 0) then 0 else b) else a := rfl
theorem ok_drill_toolFor (x0 : List Mat) (x1 x2 : Int) (hok : OkA I_drill_toolFor.args (x0, x1, x2, ())) : ∃ n, bodyE ty T_drill_toolFor n I_drill_toolFor (x0, x1, x2, ()) = some ((S_toolP x0 x1 x2, ()), ((), (), (), ())) := ⟨x0.length + 1, by
  have hl : x0.length ≤ maxLen := hok.1.1
  rw [B_drill_toolFor_eq]
  unfold B_drill_toolFor S_toolP S_tf
  refine (loop_fold (l := x0) (fun i (b : Int) => ((b, (i, ())), (x1, ()))) (fun i b => -1 ≤ b ∧ b < (i : Int)) (tfF (fun a => S_off a x1) x0 x2) (fun b => some ((b, ()), ((), (), (), ()))) (fun i h b hI => ⟨tf_inv _ x0 x2 hI _, fun rec => ?_⟩) (fun b _ rec => by simp only [lt_self, cond_false]) (Nat.lt_succ_self _) (s := -1) (by simp)).trans rfl
  simp only [lt_nat h, inB_nat h, getD_at h, succ64 h hl, cond_true, Int.toNat_natCast, cmp_or S_or or_two]
  unfold tfF
  by_cases c1 : x2 < S_off x0[i] x1
  · rw [decide_eq_true c1, decide_eq_false (show ¬ S_off x0[i] x1 ≤ x2 by omega)]; rfl
  · rw [decide_eq_false c1, decide_eq_true (show S_off x0[i] x1 ≤ x2 by omega)]
    simp only [cond_true, cond_false]
    by_cases c2 : b < 0
    · rw [decide_eq_true c2]; rfl
    · have hb : inB b x0.length = true := inB_int (by omega) (by omega)
      rw [decide_eq_false c2, hb]
      simp only [cond_true, cond_false]
      change (bif (decide (S_off x0[i] x1 < S_off (x0.getD b.toNat mat0) x1) || (decide (S_off x0[i] x1 = S_off (x0.getD b.toNat mat0) x1) && decide ((x0.getD b.toNat mat0).2.1 < x0[i].2.1))) then _ else _) = _
      cases decide (S_off x0[i] x1 < S_off (x0.getD b.toNat mat0) x1) <;> cases decide (S_off x0[i] x1 = S_off (x0.getD b.toNat mat0) x1) <;> cases decide ((x0.getD b.toNat mat0).2.1 < x0[i].2.1) <;> rfl⟩
noncomputable def E_drill_toolFor : Entry Try.prog := Entry.of tok T_drill_toolFor I_drill_toolFor it_drill_toolFor (fun (x0, x1, x2, ()) => some ((S_toolP x0 x1 x2, ()), ((), (), (), ()))) (fun (x0, x1, x2, ()) r hok h => by cases h; exact ok_drill_toolFor x0 x1 x2 hok)

end Go.Proofs.Ytmhhodnackfhmaa
namespace Go.Proofs.Ytmhhodnackfhmaa
open Go Go.VM
/-! ### etchhouse.drill.Chosen -/
noncomputable def I_drill_Chosen : Inst := ⟨12, Try.f12, .two (.reg []) (.two (.two (.reg [(1, 0)]) (.two (.reg []) (.two (.two (.reg []) (.leaf)) (.leaf)))) (.two (.two (.reg [(1, 1)]) (.two (.reg []) (.two (.two (.reg []) (.leaf)) (.leaf)))) (.two (.two (.reg [(1, 2)]) (.two (.two (.reg []) (.leaf)) (.leaf))) (.two (.reg []) (.two (.reg []) (.two (.two (.reg []) (.one (.loop ⟨[(12, .st (.at (.rf 12 []))), (37, .pv i)], [(12, ⟨(.own .flat), (.sl i), false, false⟩), (11, ⟨(.own (.own .flat)), (.sl (.sl (.pair (.pair i (.pair i .unit)) (.pair i (.pair i (.pair .bool .unit)))))), false, false⟩)], [0, 2, 11, 35, 36], []⟩ (.two (.reg []) (.two (.two (.leaf) (.leaf)) (.two (.one (.two (.reg []) (.two (.reg [(4, 3)]) (.two (.reg []) (.two (.reg []) (.draw [] [0, 1, 2, 3, 4, 5, 6, 7, 8, 9, 10] [14, 11])))))) (.reg []))))))) (.two (.reg []) (.two (.two (.reg []) (.one (.loop ⟨[(16, .st (.at (.rf 16 []))), (66, .pv i)], [(16, ⟨(.own .flat), (.sl (.pair .str (.pair (.sl (.pair (.pair i (.pair i .unit)) (.pair i (.pair i (.pair .bool .unit))))) .unit))), false, false⟩), (11, ⟨.flat, (.sl (.sl (.pair (.pair i (.pair i .unit)) (.pair i (.pair i (.pair .bool .unit)))))), false, false⟩)], [0, 12, 64, 65], [12]⟩ (.two (.reg []) (.two (.two (.leaf) (.leaf)) (.two (.one (.two (.reg []) (.two (.reg []) (.two (.reg []) (.leaf))))) (.reg []))))))) (.two (.reg []) (.leaf)))))))))), (.cons (.pv (.sl (.pair .str (.pair i (.pair i (.pair i .unit)))))) (.cons (.pv (.sl (.pair (.pair i (.pair i .unit)) (.pair i (.pair i (.pair .bool .unit)))))) (.cons (.pv i) .nil))), (.cons (.own .flat) (.sl (.pair .str (.pair (.sl (.pair (.pair i (.pair i .unit)) (.pair i (.pair i (.pair .bool .unit))))) .unit))) (.cons (.own .flat) (.sl i) (.cons .flat i .nil)))⟩
theorem it_drill_Chosen : InTab Try.prog I_drill_Chosen := ⟨Try.func12, by kernel_rfl, rfl⟩
noncomputable def T_drill_Chosen : Nat → Entry Try.prog := nth (Entry.no Try.f0) [E_drill_CheckTools, E_drill_CheckHoles, E_drill_within, E_drill_toolFor]
noncomputable def B_drill_Chosen (n : Nat) (x0 : List (ByteArray × (Int × (Int × (Int × Unit))))) (x1 : List ((Int × (Int × Unit)) × (Int × (Int × (Bool × Unit))))) (x2 : Int) : Option (((List (ByteArray × (List ((Int × (Int × Unit)) × (Int × (Int × (Bool × Unit)))) × Unit)) × (List Int × (Int × Unit))) × (Unit × (Unit × (Unit × Unit))))) :=
  (bif (!(decide ((S_chkT x0 = 0)))) then
    some (([], ([], (S_chkT x0, ()))), ((), ((), ((), ()))))
  else
    (bif (!(decide ((S_chkH x1 = 0)))) then
      some (([], ([], (S_chkH x1, ()))), ((), ((), ((), ()))))
    else
      (bif (!(S_within x2 0 10000)) then
        some (([], ([], (1, ()))), ((), ((), ((), ()))))
      else
        (bif ((decide ((0 ≤ ((x0.length : Nat) : Int))) && decide ((((x0.length : Nat) : Int) ≤ ((x0.length : Nat) : Int)))) && decide ((((x0.length : Nat) : Int) ≤ 4294967296))) then
          loopN (fun rec1 => fun
          | ((v1aa, ()), (v1ba, (v1bba, ()))) =>
            (bif decide ((v1aa < ((x1.length : Nat) : Int))) then
              (bif inB v1aa x1.length then
                (bif decide ((S_toolP x0 (((x1.getD v1aa.toNat ((0, (0, ())), (0, (0, (false, ()))))).2).1) x2 < 0)) then
                  (bif decide (((v1ba.length + 1) ≤ 4294967296)) then
                    rec1 ((wrapI .i64 (v1aa + 1), ()), ((v1ba ++ [v1aa]), (v1bba, ())))
                  else
                    none)
                else
                  (bif inB (S_toolP x0 (((x1.getD v1aa.toNat ((0, (0, ())), (0, (0, (false, ()))))).2).1) x2) v1bba.length then
                    (bif decide ((((v1bba.getD ((S_toolP x0 (((x1.getD v1aa.toNat ((0, (0, ())), (0, (0, (false, ()))))).2).1) x2).toNat) []).length + 1) ≤ 4294967296)) then
                      (bif inB (S_toolP x0 (((x1.getD v1aa.toNat ((0, (0, ())), (0, (0, (false, ()))))).2).1) x2) v1bba.length then
                        (bif Nat.beq ((S_toolP x0 (((x1.getD v1aa.toNat ((0, (0, ())), (0, (0, (false, ()))))).2).1) x2).toNat) ((S_toolP x0 (((x1.getD v1aa.toNat ((0, (0, ())), (0, (0, (false, ()))))).2).1) x2).toNat) then
                          (bif Nat.beq ((S_toolP x0 (((x1.getD v1aa.toNat ((0, (0, ())), (0, (0, (false, ()))))).2).1) x2).toNat) ((S_toolP x0 (((x1.getD v1aa.toNat ((0, (0, ())), (0, (0, (false, ()))))).2).1) x2).toNat) then
                            rec1 ((wrapI .i64 (v1aa + 1), ()), (v1ba, (v1bba.set ((S_toolP x0 (((x1.getD v1aa.toNat ((0, (0, ())), (0, (0, (false, ()))))).2).1) x2).toNat) (v1bba.getD ((S_toolP x0 (((x1.getD v1aa.toNat ((0, (0, ())), (0, (0, (false, ()))))).2).1) x2).toNat) [] ++ [x1.getD v1aa.toNat ((0, (0, ())), (0, (0, (false, ()))))]), ())))
                          else
                            none)
                        else
                          none)
                      else
                        none)
                    else
                      none)
                  else
                    none))
              else
                none)
            else
              loopN (fun rec2 => fun
              | ((v2aa, ()), (v2ba, (v2bba, ()))) =>
                (bif decide ((v2aa < ((v1bba.length : Nat) : Int))) then
                  (bif inB v2aa v2bba.length then
                    (bif decide ((0 < (((v2bba.getD v2aa.toNat []).length : Nat) : Int))) then
                      (bif inB v2aa x0.length then
                        (bif decide (((v2ba.length + 1) ≤ 4294967296)) then
                          rec2 ((wrapI .i64 (v2aa + 1), ()), ((v2ba ++ [((x0.getD v2aa.toNat ((strOf []), (0, (0, (0, ()))))).1, (v2bba.getD v2aa.toNat [], ()))]), (v2bba, ())))
                        else
                          none)
                      else
                        none)
                    else
                      rec2 ((wrapI .i64 (v2aa + 1), ()), (v2ba, (v2bba, ()))))
                  else
                    none)
                else
                  some ((v2ba, (v1ba, (0, ()))), ((), ((), ((), ()))))))
              n ((0, ()), ([], (v1bba, ())))))
          n ((0, ()), ([], (List.replicate (α := List ((Int × (Int × Unit)) × (Int × (Int × (Bool × Unit))))) (((x0.length : Nat) : Int).toNat) [], ())))
        else
          none))))
theorem B_drill_Chosen_eq (n : Nat) (x0 : List (ByteArray × (Int × (Int × (Int × Unit))))) (x1 : List ((Int × (Int × Unit)) × (Int × (Int × (Bool × Unit))))) (x2 : Int) : bodyE ty T_drill_Chosen n I_drill_Chosen (x0, (x1, (x2, ()))) = B_drill_Chosen n x0 x1 x2 := by kernel_rfl

end Go.Proofs.Ytmhhodnackfhmaa
namespace Go.Proofs.Ytmhhodnackfhmaa
open Go Go.VM
theorem ok_drill_Chosen (x0 : List Mat) (x1 : List Hole) (x2 : Int) (hok : OkA I_drill_Chosen.args (x0, x1, x2, ())) : ∃ n, bodyE ty T_drill_Chosen n I_drill_Chosen (x0, x1, x2, ()) = some ((S_ChoJ (S_chkH x1) (fun a => S_toolP x0 a x2) x0 x1 x2, S_ChoN (S_chkH x1) (fun a => S_toolP x0 a x2) x0 x1 x2, S_ChoF (S_chkH x1) x0 x2, ()), ((), (), (), ())) := ⟨x1.length + x0.length + 1, by
  have ht : x0.length ≤ maxLen := hok.1.1
  have hl : x1.length ≤ maxLen := hok.2.1.1
  rw [B_drill_Chosen_eq]
  unfold B_drill_Chosen S_ChoJ S_ChoN S_ChoF choOk
  cases hT : decide (S_chkT x0 = 0) with
  | false => rfl
  | true =>
  cases hH : decide (S_chkH x1 = 0) with
  | false => rfl
  | true =>
  cases S_within x2 0 10000 with
  | false => rfl
  | true =>
  have hH := of_decide_eq_true hH
  have hT := (chkT_at (of_decide_eq_true hT)).1
  have hH2 : x1.length ≤ 2000 := by
    unfold S_chkH at hH
    cases hd : decide ((2000 : Int) < (x1.length : Int)) with
    | true => rw [hd] at hH; cases hH
    | false => have := of_decide_eq_false hd; omega
  have c0 : ((decide ((0 : Int) ≤ ((x0.length : Nat) : Int)) && decide ((((x0.length : Nat) : Int) ≤ ((x0.length : Nat) : Int)))) && decide ((((x0.length : Nat) : Int) ≤ 4294967296))) = true := by simp; omega
  rw [hH]
  simp only [Bool.not_true, Bool.and_true, cond_false, cond_true, c0]
  refine (loop_fold (l := x1) (fun i (s : List Int × List (List Hole)) => ((i, ()), (s.1, (s.2, ())))) (choI x0) (choF (fun a => S_toolP x0 a x2)) (fun s => some ((foldI (choG s.2) x0 0 [], s.1, 0, ()), ((), (), (), ()))) (fun i h s hI => ⟨cho_inv hI, fun rec => ?_⟩) (fun s hI rec => ?_) (show x1.length < x1.length + x0.length + 1 by omega) (s := ([], List.replicate x0.length [])) (choI_zero x0)).trans rfl
  · obtain ⟨h1, h2, h3⟩ := hI
    have hb := tf_bound (fun a => S_off a x1[i].2.1) x0 x2
    have hb : -1 ≤ S_toolP x0 x1[i].2.1 x2 ∧ S_toolP x0 x1[i].2.1 x2 < (x0.length : Int) := hb
    simp only [lt_nat h, inB_nat h, getD_at h, succ64 h hl, cond_true, Int.toNat_natCast]
    unfold choF
    by_cases c1 : S_toolP x0 x1[i].2.1 x2 < 0
    · have c3 : decide (s.1.length + 1 ≤ 4294967296) = true := decide_eq_true (by omega)
      simp only [decide_eq_true c1, cond_true, c3]
    · have hk := h3 (S_toolP x0 x1[i].2.1 x2).toNat
      have c3 : decide ((s.2.getD (S_toolP x0 x1[i].2.1 x2).toNat []).length + 1 ≤ 4294967296) = true := decide_eq_true (by omega)
      have hib : inB (S_toolP x0 x1[i].2.1 x2) s.2.length = true := inB_int (by omega) (by omega)
      have hbq : Nat.beq (S_toolP x0 x1[i].2.1 x2).toNat (S_toolP x0 x1[i].2.1 x2).toNat = true := Nat.beq_refl _
      simp only [decide_eq_false c1, cond_false, cond_true, c3, hib, hbq]
  · obtain ⟨h1, h2, h3⟩ := hI
    simp only [lt_self, cond_false]
    refine (loop_fold (l := x0) (fun k (o : List Job) => ((k, ()), (o, (s.2, ())))) (fun k o => o.length ≤ k) (choG s.2) (fun o => some ((o, s.1, 0, ()), ((), (), (), ()))) (fun k hk o ho => ⟨choG_len ho, fun rec2 => ?_⟩) (fun o _ rec2 => by simp only [h2, lt_self, cond_false]) (show x0.length < x1.length + x0.length + 1 by omega) (s := []) (Nat.le_refl _)).trans rfl
    have c3 : decide (o.length + 1 ≤ 4294967296) = true := decide_eq_true (by omega)
    simp only [h2, lt_nat hk, inB_nat hk, getD_at hk, succ64 hk ht, cond_true, Int.toNat_natCast, c3]
    unfold choG
    cases decide ((0 : Int) < (((s.2.getD k []).length : Nat) : Int)) <;> rfl⟩
noncomputable def E_drill_Chosen : Entry Try.prog := Entry.of tok T_drill_Chosen I_drill_Chosen it_drill_Chosen (fun (x0, x1, x2, ()) => some ((S_ChoJ (S_chkH x1) (fun a => S_toolP x0 a x2) x0 x1 x2, S_ChoN (S_chkH x1) (fun a => S_toolP x0 a x2) x0 x1 x2, S_ChoF (S_chkH x1) x0 x2, ()), ((), (), (), ()))) (fun (x0, x1, x2, ()) r hok h => by cases h; exact ok_drill_Chosen x0 x1 x2 hok)

end Go.Proofs.Ytmhhodnackfhmaa
namespace Go.Proofs.Ytmhhodnackfhmaa
open Go Go.VM
/-! ### etchhouse.etchhouseref8.within -/
noncomputable def I_etchhouseref8_within : Inst := ⟨38, Try.f38, .two (.reg []) (.two (.reg []) (.leaf)), (.cons (.pv i) (.cons (.pv i) (.cons (.pv i) .nil))), (.cons .flat .bool .nil)⟩
theorem it_etchhouseref8_within : InTab Try.prog I_etchhouseref8_within := ⟨Try.func38, by kernel_rfl, rfl⟩
noncomputable def T_etchhouseref8_within : Nat → Entry Try.prog := nth (Entry.no Try.f0) []
noncomputable def B_etchhouseref8_within (x0 : Int) (x1 : Int) (x2 : Int) : Option (((Bool × Unit) × (Unit × (Unit × (Unit × Unit))))) :=
  (bif decide ((x1 ≤ x0)) then
    some ((decide ((x0 ≤ x2)), ()), ((), ((), ((), ()))))
  else
    some ((false, ()), ((), ((), ((), ())))))
theorem B_etchhouseref8_within_eq (n : Nat) (x0 : Int) (x1 : Int) (x2 : Int) : bodyE ty T_etchhouseref8_within n I_etchhouseref8_within (x0, (x1, (x2, ()))) = B_etchhouseref8_within x0 x1 x2 := by kernel_rfl

end Go.Proofs.Ytmhhodnackfhmaa
namespace Go.Proofs.Ytmhhodnackfhmaa
open Go Go.VM
theorem ok_etchhouseref8_within (x0 x1 x2 : Int) (hok : OkA I_etchhouseref8_within.args (x0, x1, x2, ())) : ∃ n, bodyE ty T_etchhouseref8_within n I_etchhouseref8_within (x0, x1, x2, ()) = some ((S_within x0 x1 x2, ()), ((), (), (), ())) := ⟨0, by
  rw [B_etchhouseref8_within_eq]; unfold B_etchhouseref8_within S_within; cases decide (x1 ≤ x0) <;> rfl⟩
noncomputable def E_etchhouseref8_within : Entry Try.prog := Entry.of tok T_etchhouseref8_within I_etchhouseref8_within it_etchhouseref8_within (fun (x0, x1, x2, ()) => some ((S_within x0 x1 x2, ()), ((), (), (), ()))) (fun (x0, x1, x2, ()) r hok h => by cases h; exact ok_etchhouseref8_within x0 x1 x2 hok)

end Go.Proofs.Ytmhhodnackfhmaa
namespace Go.Proofs.Ytmhhodnackfhmaa
open Go Go.VM
/-! ### etchhouse.etchhouseref8.isWord -/
noncomputable def I_etchhouseref8_isWord : Inst := ⟨55, Try.f55, .two (.reg []) (.two (.two (.reg []) (.one (.loop ⟨[(7, .pv i)], [], [0, 6], []⟩ (.two (.reg []) (.two (.two (.leaf) (.leaf)) (.two (.one (.two (.reg []) (.two (.reg []) (.two (.reg [(24, 0)]) (.two (.two (.reg []) (.leaf)) (.leaf)))))) (.reg []))))))) (.two (.reg [(2, 1)]) (.leaf))), (.cons (.pv .str) .nil), (.cons .flat .bool .nil)⟩
theorem it_etchhouseref8_isWord : InTab Try.prog I_etchhouseref8_isWord := ⟨Try.func55, by kernel_rfl, rfl⟩
noncomputable def T_etchhouseref8_isWord : Nat → Entry Try.prog := nth (Entry.no Try.f0) [E_strings_IndexByte, E_etchhouseref8_within]
noncomputable def B_etchhouseref8_isWord (n : Nat) (x0 : ByteArray) : Option (((Bool × Unit) × (Unit × Unit))) :=
  loopN (fun rec1 => fun
  | ((v1aa, ()), ()) =>
    (bif decide ((v1aa < ((ByteArray.size x0 : Nat) : Int))) then
      (bif inB v1aa (ByteArray.size x0) then
        (bif decide ((strAt x0 v1aa.toNat < 97)) then
          (bif decide ((strAt x0 v1aa.toNat < 65)) then
            (bif decide ((strAt x0 v1aa.toNat < 48)) then
              (bif decide ((S_strings_IndexByte (strOf [95, 43, 45, 35]) (strAt x0 v1aa.toNat) < 0)) then
                some ((false, ()), ((), ()))
              else
                rec1 ((wrapI .i64 (v1aa + 1), ()), ()))
            else
              (bif decide ((57 < strAt x0 v1aa.toNat)) then
                (bif decide ((S_strings_IndexByte (strOf [95, 43, 45, 35]) (strAt x0 v1aa.toNat) < 0)) then
                  some ((false, ()), ((), ()))
                else
                  rec1 ((wrapI .i64 (v1aa + 1), ()), ()))
              else
                rec1 ((wrapI .i64 (v1aa + 1), ()), ())))
          else
            (bif decide ((90 < strAt x0 v1aa.toNat)) then
              (bif decide ((strAt x0 v1aa.toNat < 48)) then
                (bif decide ((S_strings_IndexByte (strOf [95, 43, 45, 35]) (strAt x0 v1aa.toNat) < 0)) then
                  some ((false, ()), ((), ()))
                else
                  rec1 ((wrapI .i64 (v1aa + 1), ()), ()))
              else
                (bif decide ((57 < strAt x0 v1aa.toNat)) then
                  (bif decide ((S_strings_IndexByte (strOf [95, 43, 45, 35]) (strAt x0 v1aa.toNat) < 0)) then
                    some ((false, ()), ((), ()))
                  else
                    rec1 ((wrapI .i64 (v1aa + 1), ()), ()))
                else
                  rec1 ((wrapI .i64 (v1aa + 1), ()), ())))
            else
              rec1 ((wrapI .i64 (v1aa + 1), ()), ())))
        else
          (bif decide ((122 < strAt x0 v1aa.toNat)) then
            (bif decide ((strAt x0 v1aa.toNat < 65)) then
              (bif decide ((strAt x0 v1aa.toNat < 48)) then
                (bif decide ((S_strings_IndexByte (strOf [95, 43, 45, 35]) (strAt x0 v1aa.toNat) < 0)) then
                  some ((false, ()), ((), ()))
                else
                  rec1 ((wrapI .i64 (v1aa + 1), ()), ()))
              else
                (bif decide ((57 < strAt x0 v1aa.toNat)) then
                  (bif decide ((S_strings_IndexByte (strOf [95, 43, 45, 35]) (strAt x0 v1aa.toNat) < 0)) then
                    some ((false, ()), ((), ()))
                  else
                    rec1 ((wrapI .i64 (v1aa + 1), ()), ()))
                else
                  rec1 ((wrapI .i64 (v1aa + 1), ()), ())))
            else
              (bif decide ((90 < strAt x0 v1aa.toNat)) then
                (bif decide ((strAt x0 v1aa.toNat < 48)) then
                  (bif decide ((S_strings_IndexByte (strOf [95, 43, 45, 35]) (strAt x0 v1aa.toNat) < 0)) then
                    some ((false, ()), ((), ()))
                  else
                    rec1 ((wrapI .i64 (v1aa + 1), ()), ()))
                else
                  (bif decide ((57 < strAt x0 v1aa.toNat)) then
                    (bif decide ((S_strings_IndexByte (strOf [95, 43, 45, 35]) (strAt x0 v1aa.toNat) < 0)) then
                      some ((false, ()), ((), ()))
                    else
                      rec1 ((wrapI .i64 (v1aa + 1), ()), ()))
                  else
                    rec1 ((wrapI .i64 (v1aa + 1), ()), ())))
              else
                rec1 ((wrapI .i64 (v1aa + 1), ()), ())))
          else
            rec1 ((wrapI .i64 (v1aa + 1), ()), ())))
      else
        none)
    else
      some ((S_within ((ByteArray.size x0 : Nat) : Int) 1 40, ()), ((), ()))))
  n ((0, ()), ())
theorem B_etchhouseref8_isWord_eq (n : Nat) (x0 : ByteArray) : bodyE ty T_etchhouseref8_isWord n I_etchhouseref8_isWord (x0, ()) = B_etchhouseref8_isWord n x0 := by kernel_rfl

end Go.Proofs.Ytmhhodnackfhmaa
namespace Go.Proofs.Ytmhhodnackfhmaa
open Go Go.VM
theorem ok_etchhouseref8_isWord (x0 : ByteArray) (hok : OkA I_etchhouseref8_isWord.args (x0, ())) : ∃ n, bodyE ty T_etchhouseref8_isWord n I_etchhouseref8_isWord (x0, ()) = some ((S_word x0, ()), ((), ())) := ⟨ByteArray.size x0 + 1, by
  have hl : ByteArray.size x0 ≤ maxLen := hok.1
  rw [B_etchhouseref8_isWord_eq]
  unfold B_etchhouseref8_isWord S_word
  refine (loop_list (l := x0.data.toList) (fun i (_ : Unit) => ((i, ()), ())) (fun a i _ => bif okB (a.toNat : Int) then .inl () else .inr (some ((false, ()), ((), ())))) (fun _ => some ((decide (1 ≤ ((ByteArray.size x0 : Nat) : Int)) && decide (((ByteArray.size x0 : Nat) : Int) ≤ 40), ()), ((), ()))) (fun i h s rec => ?_) (fun s rec => ?_) (Nat.lt_succ_self _) ()).trans ?_
  · have h' : i < ByteArray.size x0 := h
    simp only [lt_nat h', inB_nat h', strAt_nat h, succ64 h' hl, cond_true]
    generalize (x0.data.toList[i].toNat : Int) = c
    unfold okB
    simp only [show ∀ a b, S_strings_IndexByte a b = S_idx a b from fun _ _ => rfl]
    cases decide (c < 65) <;> cases decide (90 < c) <;> cases decide (c < 97) <;> cases decide (122 < c) <;> cases decide (c < 48) <;> cases decide (57 < c) <;> cases decide (S_idx (strOf [95, 43, 45, 35]) c < 0) <;> rfl
  · rw [← size_list]
    simp only [lt_self, cond_false]
    rfl
  · rw [all_go]
    cases x0.data.toList.all fun b => okB (b.toNat : Int) <;> rfl⟩
noncomputable def E_etchhouseref8_isWord : Entry Try.prog := Entry.of tok T_etchhouseref8_isWord I_etchhouseref8_isWord it_etchhouseref8_isWord (fun (x0, ()) => some ((S_word x0, ()), ((), ()))) (fun (x0, ()) r hok h => by cases h; exact ok_etchhouseref8_isWord x0 hok)

end Go.Proofs.Ytmhhodnackfhmaa
namespace Go.Proofs.Ytmhhodnackfhmaa
open Go Go.VM
/-! ### etchhouse.etchhouseref8.CheckTools -/
noncomputable def I_etchhouseref8_CheckTools : Inst := ⟨33, Try.f33, .two (.reg []) (.two (.two (.reg []) (.two (.two (.reg []) (.leaf)) (.leaf))) (.two (.two (.reg []) (.one (.loop ⟨[(10, .pv i)], [], [0, 8, 9], []⟩ (.two (.reg []) (.two (.two (.leaf) (.leaf)) (.two (.one (.two (.reg []) (.one (.two (.reg [(2, 0)]) (.two (.two (.reg []) (.leaf)) (.two (.reg [(2, 1), (7, 1), (13, 1)]) (.two (.two (.reg []) (.leaf)) (.two (.draw [] [0, 1, 2, 3, 4, 5, 6, 7, 8, 9, 10, 11, 12, 13] [4]) (.two (.two (.reg []) (.leaf)) (.leaf)))))))))) (.reg []))))))) (.two (.reg []) (.leaf)))), (.cons (.pv (.sl (.pair .str (.pair i (.pair i (.pair i .unit)))))) .nil), (.cons .flat i .nil)⟩
theorem it_etchhouseref8_CheckTools : InTab Try.prog I_etchhouseref8_CheckTools := ⟨Try.func33, by kernel_rfl, rfl⟩
noncomputable def T_etchhouseref8_CheckTools : Nat → Entry Try.prog := nth (Entry.no Try.f0) [E_etchhouseref8_isWord, E_etchhouseref8_within]
noncomputable def B_etchhouseref8_CheckTools (n : Nat) (x0 : List (ByteArray × (Int × (Int × (Int × Unit))))) : Option (((Int × Unit) × (Unit × Unit))) :=
  (bif decide ((100 < ((x0.length : Nat) : Int))) then
    some ((2, ()), ((), ()))
  else
    loopN (fun rec1 => fun
    | ((v1aa, ()), ()) =>
      (bif decide ((v1aa < ((x0.length : Nat) : Int))) then
        (bif inB v1aa x0.length then
          (bif (!(S_word ((x0.getD v1aa.toNat ((strOf []), (0, (0, (0, ()))))).1))) then
            some ((5, ()), ((), ()))
          else
            (bif (!(S_within (((x0.getD v1aa.toNat ((strOf []), (0, (0, (0, ()))))).2).1) 1 10000)) then
              some ((1, ()), ((), ()))
            else
              (bif (!(S_within ((((x0.getD v1aa.toNat ((strOf []), (0, (0, (0, ()))))).2).2).1) 1 2000)) then
                some ((1, ()), ((), ()))
              else
                (bif (!(S_within (((((x0.getD v1aa.toNat ((strOf []), (0, (0, (0, ()))))).2).2).2).1) 0 1000)) then
                  some ((1, ()), ((), ()))
                else
                  (bif decide ((0 < v1aa)) then
                    (bif inB (wrapI .i64 (v1aa - 1)) x0.length then
                      (bif (Op.bytesLess (ByteArray.toList ((x0.getD v1aa.toNat ((strOf []), (0, (0, (0, ()))))).1)) (ByteArray.toList ((x0.getD ((wrapI .i64 (v1aa - 1)).toNat) ((strOf []), (0, (0, (0, ()))))).1)) || decide ((ByteArray.toList ((x0.getD v1aa.toNat ((strOf []), (0, (0, (0, ()))))).1) = ByteArray.toList ((x0.getD ((wrapI .i64 (v1aa - 1)).toNat) ((strOf []), (0, (0, (0, ()))))).1)))) then
                        some ((8, ()), ((), ()))
                      else
                        rec1 ((wrapI .i64 (v1aa + 1), ()), ()))
                    else
                      none)
                  else
                    rec1 ((wrapI .i64 (v1aa + 1), ()), ()))))))
        else
          none)
      else
        some ((0, ()), ((), ()))))
    n ((0, ()), ()))
theorem B_etchhouseref8_CheckTools_eq (n : Nat) (x0 : List (ByteArray × (Int × (Int × (Int × Unit))))) : bodyE ty T_etchhouseref8_CheckTools n I_etchhouseref8_CheckTools (x0, ()) = B_etchhouseref8_CheckTools n x0 := by kernel_rfl

end Go.Proofs.Ytmhhodnackfhmaa
namespace Go.Proofs.Ytmhhodnackfhmaa
open Go Go.VM
theorem ok_etchhouseref8_CheckTools (x0 : List Mat) (hok : OkA I_etchhouseref8_CheckTools.args (x0, ())) : ∃ n, bodyE ty T_etchhouseref8_CheckTools n I_etchhouseref8_CheckTools (x0, ()) = some ((S_chkT x0, ()), ((), ())) := ⟨x0.length + 1, by
  have hl : x0.length ≤ maxLen := hok.1.1
  rw [B_etchhouseref8_CheckTools_eq]
  unfold B_etchhouseref8_CheckTools
  exact chkT_loop (R := fun a => some ((a, ()), ((), ()))) hl (Nat.lt_succ_self _)⟩
noncomputable def E_etchhouseref8_CheckTools : Entry Try.prog := Entry.of tok T_etchhouseref8_CheckTools I_etchhouseref8_CheckTools it_etchhouseref8_CheckTools (fun (x0, ()) => some ((S_chkT x0, ()), ((), ()))) (fun (x0, ()) r hok h => by cases h; exact ok_etchhouseref8_CheckTools x0 hok)

end Go.Proofs.Ytmhhodnackfhmaa
namespace Go.Proofs.Ytmhhodnackfhmaa
open Go Go.VM
/-! ### etchhouse.etchhouseref8.isPoint -/
noncomputable def I_etchhouseref8_isPoint : Inst := ⟨49, Try.f49, .two (.reg []) (.two (.reg [(2, 0), (6, 0)]) (.leaf)), (.cons (.pv (.pair i (.pair i .unit))) .nil), (.cons .flat .bool .nil)⟩
theorem it_etchhouseref8_isPoint : InTab Try.prog I_etchhouseref8_isPoint := ⟨Try.func49, by kernel_rfl, rfl⟩
noncomputable def T_etchhouseref8_isPoint : Nat → Entry Try.prog := nth (Entry.no Try.f0) [E_etchhouseref8_within]
noncomputable def B_etchhouseref8_isPoint (x0 : (Int × (Int × Unit))) : Option (((Bool × Unit) × (Unit × Unit))) :=
  (bif S_within x0.1 (-1000000) 1000000 then
    some ((S_within x0.2.1 (-1000000) 1000000, ()), ((), ()))
  else
    some ((false, ()), ((), ())))
theorem B_etchhouseref8_isPoint_eq (n : Nat) (x0 : (Int × (Int × Unit))) : bodyE ty T_etchhouseref8_isPoint n I_etchhouseref8_isPoint (x0, ()) = B_etchhouseref8_isPoint x0 := by kernel_rfl

end Go.Proofs.Ytmhhodnackfhmaa
namespace Go.Proofs.Ytmhhodnackfhmaa
open Go Go.VM
def S_isPtR (p : Int × Int × Unit) : Bool := S_within p.1 (-1000000) 1000000 && S_within p.2.1 (-1000000) 1000000
theorem ok_etchhouseref8_isPoint (x0 : Int × Int × Unit) (hok : OkA I_etchhouseref8_isPoint.args (x0, ())) : ∃ n, bodyE ty T_etchhouseref8_isPoint n I_etchhouseref8_isPoint (x0, ()) = some ((S_isPtR x0, ()), ((), ())) := ⟨0, by
  rw [B_etchhouseref8_isPoint_eq]; unfold B_etchhouseref8_isPoint S_isPtR; cases S_within x0.1 (-1000000) 1000000 <;> rfl⟩
noncomputable def E_etchhouseref8_isPoint : Entry Try.prog := Entry.of tok T_etchhouseref8_isPoint I_etchhouseref8_isPoint it_etchhouseref8_isPoint (fun (x0, ()) => some ((S_isPtR x0, ()), ((), ()))) (fun (x0, ()) r hok h => by cases h; exact ok_etchhouseref8_isPoint x0 hok)

end Go.Proofs.Ytmhhodnackfhmaa
namespace Go.Proofs.Ytmhhodnackfhmaa
open Go Go.VM
/-! ### etchhouse.etchhouseref8.CheckHoles -/
noncomputable def I_etchhouseref8_CheckHoles : Inst := ⟨31, Try.f31, .two (.reg []) (.two (.two (.reg []) (.two (.two (.reg []) (.leaf)) (.leaf))) (.two (.two (.reg []) (.one (.loop ⟨[(10, .pv i)], [], [8, 9], []⟩ (.two (.reg []) (.two (.two (.leaf) (.leaf)) (.two (.one (.two (.reg []) (.two (.reg [(2, 0), (7, 1), (13, 1)]) (.two (.two (.reg []) (.leaf)) (.leaf))))) (.reg []))))))) (.two (.reg []) (.leaf)))), (.cons (.pv (.sl (.pair (.pair i (.pair i .unit)) (.pair i (.pair i (.pair .bool .unit)))))) .nil), (.cons .flat i .nil)⟩
theorem it_etchhouseref8_CheckHoles : InTab Try.prog I_etchhouseref8_CheckHoles := ⟨Try.func31, by kernel_rfl, rfl⟩
noncomputable def T_etchhouseref8_CheckHoles : Nat → Entry Try.prog := nth (Entry.no Try.f0) [E_etchhouseref8_isPoint, E_etchhouseref8_within]
noncomputable def B_etchhouseref8_CheckHoles (n : Nat) (x0 : List ((Int × (Int × Unit)) × (Int × (Int × (Bool × Unit))))) : Option (((Int × Unit) × (Unit × Unit))) :=
  (bif decide ((2000 < ((x0.length : Nat) : Int))) then
    some ((2, ()), ((), ()))
  else
    loopN (fun rec1 => fun
    | ((v1aa, ()), ()) =>
      (bif decide ((v1aa < ((x0.length : Nat) : Int))) then
        (bif inB v1aa x0.length then
          (bif (!(S_isPtR ((x0.getD v1aa.toNat ((0, (0, ())), (0, (0, (false, ()))))).1))) then
            some ((1, ()), ((), ()))
          else
            (bif (!(S_within (((x0.getD v1aa.toNat ((0, (0, ())), (0, (0, (false, ()))))).2).1) 1 10000)) then
              some ((1, ()), ((), ()))
            else
              (bif (!(S_within ((((x0.getD v1aa.toNat ((0, (0, ())), (0, (0, (false, ()))))).2).2).1) 1 100000)) then
                some ((1, ()), ((), ()))
              else
                rec1 ((wrapI .i64 (v1aa + 1), ()), ()))))
        else
          none)
      else
        some ((0, ()), ((), ()))))
    n ((0, ()), ()))
theorem B_etchhouseref8_CheckHoles_eq (n : Nat) (x0 : List ((Int × (Int × Unit)) × (Int × (Int × (Bool × Unit))))) : bodyE ty T_etchhouseref8_CheckHoles n I_etchhouseref8_CheckHoles (x0, ()) = B_etchhouseref8_CheckHoles n x0 := by kernel_rfl

end Go.Proofs.Ytmhhodnackfhmaa
namespace Go.Proofs.Ytmhhodnackfhmaa
open Go Go.VM
def S_holeR (h : Hole) : Bool := S_isPtR h.1 && (S_within h.2.1 1 10000 && S_within h.2.2.1 1 100000)
def S_chkHR (l : List Hole) : Int := bif decide ((2000 : Int) < (l.length : Int)) then 2 else bif l.all S_holeR then 0 else 1
theorem ok_etchhouseref8_CheckHoles (x0 : List Hole) (hok : OkA I_etchhouseref8_CheckHoles.args (x0, ())) : ∃ n, bodyE ty T_etchhouseref8_CheckHoles n I_etchhouseref8_CheckHoles (x0, ()) = some ((S_chkHR x0, ()), ((), ())) := ⟨x0.length + 1, by
  obtain ⟨⟨hl, _⟩, _⟩ := hok
  rw [B_etchhouseref8_CheckHoles_eq]
  unfold B_etchhouseref8_CheckHoles S_chkHR
  cases hd : decide ((2000 : Int) < (x0.length : Int)) with
  | true => rfl
  | false =>
    simp only [cond_false]
    refine (loop_list (l := x0) (fun i (_ : Unit) => ((i, ()), ())) (fun a i _ => bif S_holeR a then .inl () else .inr (some ((1, ()), ((), ())))) (fun _ => some ((0, ()), ((), ()))) (fun i h s rec => ?_) (fun s rec => ?_) (Nat.lt_succ_self _) ()).trans ?_
    · simp only [lt_nat h, inB_nat h, getD_lt h, succ64 h hl, cond_true, S_holeR]
      cases S_isPtR x0[i].1 <;> cases S_within x0[i].2.1 1 10000 <;> cases S_within x0[i].2.2.1 1 100000 <;> rfl
    · simp only [lt_self, cond_false]
    · rw [goL_all]
      cases x0.all S_holeR <;> rfl⟩
noncomputable def E_etchhouseref8_CheckHoles : Entry Try.prog := Entry.of tok T_etchhouseref8_CheckHoles I_etchhouseref8_CheckHoles it_etchhouseref8_CheckHoles (fun (x0, ()) => some ((S_chkHR x0, ()), ((), ()))) (fun (x0, ()) r hok h => by cases h; exact ok_etchhouseref8_CheckHoles x0 hok)

end Go.Proofs.Ytmhhodnackfhmaa
namespace Go.Proofs.Ytmhhodnackfhmaa
open Go Go.VM
/-! ### etchhouse.etchhouseref8.abs -/
noncomputable def I_etchhouseref8_abs : Inst := ⟨60, Try.f60, .two (.reg []) (.two (.reg []) (.leaf)), (.cons (.pv i) .nil), (.cons .flat i .nil)⟩
theorem it_etchhouseref8_abs : InTab Try.prog I_etchhouseref8_abs := ⟨Try.func60, by kernel_rfl, rfl⟩
noncomputable def T_etchhouseref8_abs : Nat → Entry Try.prog := nth (Entry.no Try.f0) []
noncomputable def B_etchhouseref8_abs (x0 : Int) : Option (((Int × Unit) × (Unit × Unit))) :=
  some (((bif decide ((x0 < wrapI .i64 (0 - x0))) then wrapI .i64 (0 - x0) else x0), ()), ((), ()))
theorem B_etchhouseref8_abs_eq (n : Nat) (x0 : Int) : bodyE ty T_etchhouseref8_abs n I_etchhouseref8_abs (x0, ()) = B_etchhouseref8_abs x0 := by kernel_rfl

end Go.Proofs.Ytmhhodnackfhmaa
namespace Go.Proofs.Ytmhhodnackfhmaa
open Go Go.VM
def S_abs (a : Int) : Int := bif decide (a < wrapI .i64 (0 - a)) then wrapI .i64 (0 - a) else a
theorem ok_etchhouseref8_abs (x0 : Int) (hok : OkA I_etchhouseref8_abs.args (x0, ())) : ∃ n, bodyE ty T_etchhouseref8_abs n I_etchhouseref8_abs (x0, ()) = some ((S_abs x0, ()), ((), ())) := ⟨0, by rw [B_etchhouseref8_abs_eq]; rfl⟩
noncomputable def E_etchhouseref8_abs : Entry Try.prog := Entry.of tok T_etchhouseref8_abs I_etchhouseref8_abs it_etchhouseref8_abs (fun (x0, ()) => some ((S_abs x0, ()), ((), ()))) (fun (x0, ()) r hok h => by cases h; exact ok_etchhouseref8_abs x0 hok)

end Go.Proofs.Ytmhhodnackfhmaa
namespace Go.Proofs.Ytmhhodnackfhmaa
open Go Go.VM
/-! ### etchhouse.etchhouseref8.toolFor -/
noncomputable def I_etchhouseref8_toolFor : Inst := ⟨39, Try.f39, .two (.reg []) (.two (.reg []) (.two (.two (.reg []) (.one (.loop ⟨[(7, .pv i), (14, .pv i)], [], [0, 1, 2, 12, 13], []⟩ (.two (.reg []) (.two (.two (.leaf) (.leaf)) (.two (.one (.two (.reg []) (.two (.reg [(4, 0)]) (.two (.two (.reg []) (.two (.leaf) (.leaf))) (.two (.two (.reg []) (.two (.two (.reg []) (.leaf)) (.leaf))) (.two (.reg [(7, 0)]) (.two (.draw [] [0, 1, 2, 3, 4, 5, 6, 7, 8, 9, 10, 11, 12, 13, 14, 15, 16, 17] [9]) (.two (.reg []) (.leaf))))))))) (.reg []))))))) (.two (.reg []) (.leaf)))), (.cons (.pv (.sl (.pair .str (.pair i (.pair i (.pair i .unit)))))) (.cons (.pv i) (.cons (.pv i) .nil))), (.cons .flat i .nil)⟩
theorem it_etchhouseref8_toolFor : InTab Try.prog I_etchhouseref8_toolFor := ⟨Try.func39, by kernel_rfl, rfl⟩
noncomputable def T_etchhouseref8_toolFor : Nat → Entry Try.prog := nth (Entry.no Try.f0) [E_etchhouseref8_abs]
noncomputable def B_etchhouseref8_toolFor (n : Nat) (x0 : List (ByteArray × (Int × (Int × (Int × Unit))))) (x1 : Int) (x2 : Int) : Option (((Int × Unit) × (Unit × (Unit × (Unit × Unit))))) :=
  loopN (fun rec1 => fun
  | ((v1aa, (v1aba, ())), ()) =>
    (bif decide ((v1aba < ((x0.length : Nat) : Int))) then
      (bif inB v1aba x0.length then
        (bif decide ((x2 < S_abs (wrapI .i64 (((x0.getD v1aba.toNat ((strOf []), (0, (0, (0, ()))))).2).1 - x1)))) then
          rec1 ((v1aa, (wrapI .i64 (v1aba + 1), ())), ())
        else
          (bif decide ((v1aa < 0)) then
            rec1 ((v1aba, (wrapI .i64 (v1aba + 1), ())), ())
          else
            (bif inB v1aa x0.length then
              (bif decide ((S_abs (wrapI .i64 (((x0.getD v1aba.toNat ((strOf []), (0, (0, (0, ()))))).2).1 - x1)) < S_abs (wrapI .i64 (((x0.getD v1aa.toNat ((strOf []), (0, (0, (0, ()))))).2).1 - x1)))) then
                rec1 ((v1aba, (wrapI .i64 (v1aba + 1), ())), ())
              else
                (bif decide ((S_abs (wrapI .i64 (((x0.getD v1aba.toNat ((strOf []), (0, (0, (0, ()))))).2).1 - x1)) = S_abs (wrapI .i64 (((x0.getD v1aa.toNat ((strOf []), (0, (0, (0, ()))))).2).1 - x1)))) then
                  (bif inB v1aa x0.length then
                    (bif decide ((((x0.getD v1aa.toNat ((strOf []), (0, (0, (0, ()))))).2).1 < ((x0.getD v1aba.toNat ((strOf []), (0, (0, (0, ()))))).2).1)) then
                      rec1 ((v1aba, (wrapI .i64 (v1aba + 1), ())), ())
                    else
                      rec1 ((v1aa, (wrapI .i64 (v1aba + 1), ())), ()))
                  else
                    none)
                else
                  rec1 ((v1aa, (wrapI .i64 (v1aba + 1), ())), ())))
            else
              none)))
      else
        none)
    else
      some ((v1aa, ()), ((), ((), ((), ()))))))
  n (((-1), (0, ())), ())
theorem B_etchhouseref8_toolFor_eq (n : Nat) (x0 : List (ByteArray × (Int × (Int × (Int × Unit))))) (x1 : Int) (x2 : Int) : bodyE ty T_etchhouseref8_toolFor n I_etchhouseref8_toolFor (x0, (x1, (x2, ()))) = B_etchhouseref8_toolFor n x0 x1 x2 := by kernel_rfl

end Go.Proofs.Ytmhhodnackfhmaa
namespace Go.Proofs.Ytmhhodnackfhmaa
open Go Go.VM
def S_offR (a : Mat) (size : Int) : Int := S_abs (wrapI .i64 (a.2.1 - size))
def S_toolR (t : List Mat) (size near : Int) : Int := S_tf (fun a => S_offR a size) t near
theorem ok_etchhouseref8_toolFor (x0 : List Mat) (x1 x2 : Int) (hok : OkA I_etchhouseref8_toolFor.args (x0, x1, x2, ())) : ∃ n, bodyE ty T_etchhouseref8_toolFor n I_etchhouseref8_toolFor (x0, x1, x2, ()) = some ((S_toolR x0 x1 x2, ()), ((), (), (), ())) := ⟨x0.length + 1, by
  have hl : x0.length ≤ maxLen := hok.1.1
  rw [B_etchhouseref8_toolFor_eq]
  unfold B_etchhouseref8_toolFor S_toolR S_tf
  refine (loop_fold (l := x0) (fun i (b : Int) => ((b, (i, ())), ())) (fun i b => -1 ≤ b ∧ b < (i : Int)) (tfF (fun a => S_offR a x1) x0 x2) (fun b => some ((b, ()), ((), (), (), ()))) (fun i h b hI => ⟨tf_inv _ x0 x2 hI _, fun rec => ?_⟩) (fun b _ rec => by simp only [lt_self, cond_false]) (Nat.lt_succ_self _) (s := -1) (by simp)).trans rfl
  simp only [lt_nat h, inB_nat h, getD_at h, succ64 h hl, cond_true, Int.toNat_natCast]
  unfold tfF
  change (bif decide (x2 < S_offR x0[i] x1) then _ else _) = _
  by_cases c1 : x2 < S_offR x0[i] x1
  · rw [decide_eq_true c1]; rfl
  · rw [decide_eq_false c1]
    simp only [cond_true, cond_false]
    by_cases c2 : b < 0
    · rw [decide_eq_true c2]; rfl
    · have hb : inB b x0.length = true := inB_int (by omega) (by omega)
      rw [decide_eq_false c2, hb]
      simp only [cond_true, cond_false]
      change (bif decide (S_offR x0[i] x1 < S_offR (x0.getD b.toNat mat0) x1) then _ else bif decide (S_offR x0[i] x1 = S_offR (x0.getD b.toNat mat0) x1) then (bif decide ((x0.getD b.toNat mat0).2.1 < x0[i].2.1) then _ else _) else _) = _
      cases decide (S_offR x0[i] x1 < S_offR (x0.getD b.toNat mat0) x1) <;> cases decide (S_offR x0[i] x1 = S_offR (x0.getD b.toNat mat0) x1) <;> cases decide ((x0.getD b.toNat mat0).2.1 < x0[i].2.1) <;> rfl⟩
noncomputable def E_etchhouseref8_toolFor : Entry Try.prog := Entry.of tok T_etchhouseref8_toolFor I_etchhouseref8_toolFor it_etchhouseref8_toolFor (fun (x0, x1, x2, ()) => some ((S_toolR x0 x1 x2, ()), ((), (), (), ()))) (fun (x0, x1, x2, ()) r hok h => by cases h; exact ok_etchhouseref8_toolFor x0 x1 x2 hok)

end Go.Proofs.Ytmhhodnackfhmaa
namespace Go.Proofs.Ytmhhodnackfhmaa
open Go Go.VM
/-! ### etchhouse.etchhouseref8.Chosen -/
noncomputable def I_etchhouseref8_Chosen : Inst := ⟨13, Try.f13, .two (.reg []) (.two (.two (.reg [(1, 0)]) (.two (.reg []) (.two (.two (.reg []) (.leaf)) (.leaf)))) (.two (.two (.reg [(1, 1)]) (.two (.reg []) (.two (.two (.reg []) (.leaf)) (.leaf)))) (.two (.two (.reg [(1, 2)]) (.two (.two (.reg []) (.leaf)) (.leaf))) (.two (.reg []) (.two (.reg []) (.two (.two (.reg []) (.one (.loop ⟨[(12, .st (.at (.rf 12 []))), (37, .pv i)], [(12, ⟨(.own .flat), (.sl i), false, false⟩), (11, ⟨(.own (.own .flat)), (.sl (.sl (.pair (.pair i (.pair i .unit)) (.pair i (.pair i (.pair .bool .unit)))))), false, false⟩)], [0, 2, 11, 35, 36], []⟩ (.two (.reg []) (.two (.two (.leaf) (.leaf)) (.two (.one (.two (.reg []) (.two (.reg [(4, 3)]) (.two (.reg []) (.two (.reg []) (.draw [] [0, 1, 2, 3, 4, 5, 6, 7, 8, 9, 10] [14, 11])))))) (.reg []))))))) (.two (.reg []) (.two (.two (.reg []) (.one (.loop ⟨[(16, .st (.at (.rf 16 []))), (66, .pv i)], [(16, ⟨(.own .flat), (.sl (.pair .str (.pair (.sl (.pair (.pair i (.pair i .unit)) (.pair i (.pair i (.pair .bool .unit))))) .unit))), false, false⟩), (11, ⟨.flat, (.sl (.sl (.pair (.pair i (.pair i .unit)) (.pair i (.pair i (.pair .bool .unit)))))), false, false⟩)], [11, 12, 64, 65], [12]⟩ (.two (.reg []) (.two (.two (.leaf) (.leaf)) (.two (.one (.two (.reg []) (.two (.reg []) (.two (.draw [] [0, 1, 2, 3, 4, 5, 6, 7, 8, 9, 10] [18, 16, 11]) (.leaf))))) (.reg []))))))) (.two (.reg []) (.leaf)))))))))), (.cons (.pv (.sl (.pair .str (.pair i (.pair i (.pair i .unit)))))) (.cons (.pv (.sl (.pair (.pair i (.pair i .unit)) (.pair i (.pair i (.pair .bool .unit)))))) (.cons (.pv i) .nil))), (.cons (.own .flat) (.sl (.pair .str (.pair (.sl (.pair (.pair i (.pair i .unit)) (.pair i (.pair i (.pair .bool .unit))))) .unit))) (.cons (.own .flat) (.sl i) (.cons .flat i .nil)))⟩
theorem it_etchhouseref8_Chosen : InTab Try.prog I_etchhouseref8_Chosen := ⟨Try.func13, by kernel_rfl, rfl⟩
noncomputable def T_etchhouseref8_Chosen : Nat → Entry Try.prog := nth (Entry.no Try.f0) [E_etchhouseref8_CheckTools, E_etchhouseref8_CheckHoles, E_etchhouseref8_within, E_etchhouseref8_toolFor]
noncomputable def B_etchhouseref8_Chosen (n : Nat) (x0 : List (ByteArray × (Int × (Int × (Int × Unit))))) (x1 : List ((Int × (Int × Unit)) × (Int × (Int × (Bool × Unit))))) (x2 : Int) : Option (((List (ByteArray × (List ((Int × (Int × Unit)) × (Int × (Int × (Bool × Unit)))) × Unit)) × (List Int × (Int × Unit))) × (Unit × (Unit × (Unit × Unit))))) :=
  (bif (!(decide ((S_chkT x0 = 0)))) then
    some (([], ([], (S_chkT x0, ()))), ((), ((), ((), ()))))
  else
    (bif (!(decide ((S_chkHR x1 = 0)))) then
      some (([], ([], (S_chkHR x1, ()))), ((), ((), ((), ()))))
    else
      (bif (!(S_within x2 0 10000)) then
        some (([], ([], (1, ()))), ((), ((), ((), ()))))
      else
        (bif ((decide ((0 ≤ ((x0.length : Nat) : Int))) && decide ((((x0.length : Nat) : Int) ≤ ((x0.length : Nat) : Int)))) && decide ((((x0.length : Nat) : Int) ≤ 4294967296))) then
          loopN (fun rec1 => fun
          | ((v1aa, ()), (v1ba, (v1bba, ()))) =>
            (bif decide ((v1aa < ((x1.length : Nat) : Int))) then
              (bif inB v1aa x1.length then
                (bif decide ((S_toolR x0 (((x1.getD v1aa.toNat ((0, (0, ())), (0, (0, (false, ()))))).2).1) x2 < 0)) then
                  (bif decide (((v1ba.length + 1) ≤ 4294967296)) then
                    rec1 ((wrapI .i64 (v1aa + 1), ()), ((v1ba ++ [v1aa]), (v1bba, ())))
                  else
                    none)
                else
                  (bif inB (S_toolR x0 (((x1.getD v1aa.toNat ((0, (0, ())), (0, (0, (false, ()))))).2).1) x2) v1bba.length then
                    (bif decide ((((v1bba.getD ((S_toolR x0 (((x1.getD v1aa.toNat ((0, (0, ())), (0, (0, (false, ()))))).2).1) x2).toNat) []).length + 1) ≤ 4294967296)) then
                      (bif inB (S_toolR x0 (((x1.getD v1aa.toNat ((0, (0, ())), (0, (0, (false, ()))))).2).1) x2) v1bba.length then
                        (bif Nat.beq ((S_toolR x0 (((x1.getD v1aa.toNat ((0, (0, ())), (0, (0, (false, ()))))).2).1) x2).toNat) ((S_toolR x0 (((x1.getD v1aa.toNat ((0, (0, ())), (0, (0, (false, ()))))).2).1) x2).toNat) then
                          (bif Nat.beq ((S_toolR x0 (((x1.getD v1aa.toNat ((0, (0, ())), (0, (0, (false, ()))))).2).1) x2).toNat) ((S_toolR x0 (((x1.getD v1aa.toNat ((0, (0, ())), (0, (0, (false, ()))))).2).1) x2).toNat) then
                            rec1 ((wrapI .i64 (v1aa + 1), ()), (v1ba, (v1bba.set ((S_toolR x0 (((x1.getD v1aa.toNat ((0, (0, ())), (0, (0, (false, ()))))).2).1) x2).toNat) (v1bba.getD ((S_toolR x0 (((x1.getD v1aa.toNat ((0, (0, ())), (0, (0, (false, ()))))).2).1) x2).toNat) [] ++ [x1.getD v1aa.toNat ((0, (0, ())), (0, (0, (false, ()))))]), ())))
                          else
                            none)
                        else
                          none)
                      else
                        none)
                    else
                      none)
                  else
                    none))
              else
                none)
            else
              loopN (fun rec2 => fun
              | ((v2aa, ()), (v2ba, (v2bba, ()))) =>
                (bif decide ((v2aa < ((x0.length : Nat) : Int))) then
                  (bif inB v2aa x0.length then
                    (bif inB v2aa v2bba.length then
                      (bif decide ((0 < (((v2bba.getD v2aa.toNat []).length : Nat) : Int))) then
                        (bif inB v2aa v2bba.length then
                          (bif decide (((v2ba.length + 1) ≤ 4294967296)) then
                            rec2 ((wrapI .i64 (v2aa + 1), ()), ((v2ba ++ [((x0.getD v2aa.toNat ((strOf []), (0, (0, (0, ()))))).1, (v2bba.getD v2aa.toNat [], ()))]), (v2bba, ())))
                          else
                            none)
                        else
                          none)
                      else
                        rec2 ((wrapI .i64 (v2aa + 1), ()), (v2ba, (v2bba, ()))))
                    else
                      none)
                  else
                    none)
                else
                  some ((v2ba, (v1ba, (0, ()))), ((), ((), ((), ()))))))
              n ((0, ()), ([], (v1bba, ())))))
          n ((0, ()), ([], (List.replicate (α := List ((Int × (Int × Unit)) × (Int × (Int × (Bool × Unit))))) (((x0.length : Nat) : Int).toNat) [], ())))
        else
          none))))
theorem B_etchhouseref8_Chosen_eq (n : Nat) (x0 : List (ByteArray × (Int × (Int × (Int × Unit))))) (x1 : List ((Int × (Int × Unit)) × (Int × (Int × (Bool × Unit))))) (x2 : Int) : bodyE ty T_etchhouseref8_Chosen n I_etchhouseref8_Chosen (x0, (x1, (x2, ()))) = B_etchhouseref8_Chosen n x0 x1 x2 := by kernel_rfl

end Go.Proofs.Ytmhhodnackfhmaa
namespace Go.Proofs.Ytmhhodnackfhmaa
open Go Go.VM
theorem ok_etchhouseref8_Chosen (x0 : List Mat) (x1 : List Hole) (x2 : Int) (hok : OkA I_etchhouseref8_Chosen.args (x0, x1, x2, ())) : ∃ n, bodyE ty T_etchhouseref8_Chosen n I_etchhouseref8_Chosen (x0, x1, x2, ()) = some ((S_ChoJ (S_chkHR x1) (fun a => S_toolR x0 a x2) x0 x1 x2, S_ChoN (S_chkHR x1) (fun a => S_toolR x0 a x2) x0 x1 x2, S_ChoF (S_chkHR x1) x0 x2, ()), ((), (), (), ())) := ⟨x1.length + x0.length + 1, by
  have ht : x0.length ≤ maxLen := hok.1.1
  have hl : x1.length ≤ maxLen := hok.2.1.1
  rw [B_etchhouseref8_Chosen_eq]
  unfold B_etchhouseref8_Chosen S_ChoJ S_ChoN S_ChoF choOk
  cases hT : decide (S_chkT x0 = 0) with
  | false => rfl
  | true =>
  cases hH : decide (S_chkHR x1 = 0) with
  | false => rfl
  | true =>
  cases S_within x2 0 10000 with
  | false => rfl
  | true =>
  have hH := of_decide_eq_true hH
  have hT := (chkT_at (of_decide_eq_true hT)).1
  have hH2 : x1.length ≤ 2000 := by
    unfold S_chkHR at hH
    cases hd : decide ((2000 : Int) < (x1.length : Int)) with
    | true => rw [hd] at hH; cases hH
    | false => have := of_decide_eq_false hd; omega
  have c0 : ((decide ((0 : Int) ≤ ((x0.length : Nat) : Int)) && decide ((((x0.length : Nat) : Int) ≤ ((x0.length : Nat) : Int)))) && decide ((((x0.length : Nat) : Int) ≤ 4294967296))) = true := by simp; omega
  rw [hH]
  simp only [Bool.not_true, Bool.and_true, cond_false, cond_true, c0]
  refine (loop_fold (l := x1) (fun i (s : List Int × List (List Hole)) => ((i, ()), (s.1, (s.2, ())))) (choI x0) (choF (fun a => S_toolR x0 a x2)) (fun s => some ((foldI (choG s.2) x0 0 [], s.1, 0, ()), ((), (), (), ()))) (fun i h s hI => ⟨cho_inv hI, fun rec => ?_⟩) (fun s hI rec => ?_) (show x1.length < x1.length + x0.length + 1 by omega) (s := ([], List.replicate x0.length [])) (choI_zero x0)).trans rfl
  · obtain ⟨h1, h2, h3⟩ := hI
    have hb := tf_bound (fun a => S_offR a x1[i].2.1) x0 x2
    have hb : -1 ≤ S_toolR x0 x1[i].2.1 x2 ∧ S_toolR x0 x1[i].2.1 x2 < (x0.length : Int) := hb
    simp only [lt_nat h, inB_nat h, getD_at h, succ64 h hl, cond_true, Int.toNat_natCast]
    unfold choF
    by_cases c1 : S_toolR x0 x1[i].2.1 x2 < 0
    · have c3 : decide (s.1.length + 1 ≤ 4294967296) = true := decide_eq_true (by omega)
      simp only [decide_eq_true c1, cond_true, c3]
    · have hk := h3 (S_toolR x0 x1[i].2.1 x2).toNat
      have c3 : decide ((s.2.getD (S_toolR x0 x1[i].2.1 x2).toNat []).length + 1 ≤ 4294967296) = true := decide_eq_true (by omega)
      have hib : inB (S_toolR x0 x1[i].2.1 x2) s.2.length = true := inB_int (by omega) (by omega)
      have hbq : Nat.beq (S_toolR x0 x1[i].2.1 x2).toNat (S_toolR x0 x1[i].2.1 x2).toNat = true := Nat.beq_refl _
      simp only [decide_eq_false c1, cond_false, cond_true, c3, hib, hbq]
  · obtain ⟨h1, h2, h3⟩ := hI
    simp only [lt_self, cond_false]
    refine (loop_fold (l := x0) (fun k (o : List Job) => ((k, ()), (o, (s.2, ())))) (fun k o => o.length ≤ k) (choG s.2) (fun o => some ((o, s.1, 0, ()), ((), (), (), ()))) (fun k hk o ho => ⟨choG_len ho, fun rec2 => ?_⟩) (fun o _ rec2 => by simp only [h2, lt_self, cond_false]) (show x0.length < x1.length + x0.length + 1 by omega) (s := []) (Nat.le_refl _)).trans rfl
    have c3 : decide (o.length + 1 ≤ 4294967296) = true := decide_eq_true (by omega)
    simp only [h2, lt_nat hk, inB_nat hk, getD_at hk, succ64 hk ht, cond_true, Int.toNat_natCast, c3]
    unfold choG
    cases decide ((0 : Int) < (((s.2.getD k []).length : Nat) : Int)) <;> rfl⟩
noncomputable def E_etchhouseref8_Chosen : Entry Try.prog := Entry.of tok T_etchhouseref8_Chosen I_etchhouseref8_Chosen it_etchhouseref8_Chosen (fun (x0, x1, x2, ()) => some ((S_ChoJ (S_chkHR x1) (fun a => S_toolR x0 a x2) x0 x1 x2, S_ChoN (S_chkHR x1) (fun a => S_toolR x0 a x2) x0 x1 x2, S_ChoF (S_chkHR x1) x0 x2, ()), ((), (), (), ()))) (fun (x0, x1, x2, ()) r hok h => by cases h; exact ok_etchhouseref8_Chosen x0 x1 x2 hok)

end Go.Proofs.Ytmhhodnackfhmaa
namespace Go.Proofs.Ytmhhodnackfhmaa
open Go Go.VM
/-! ### slices.Equal[[]etchhouse.api.Hole,etchhouse.api.Hole] -/
noncomputable def I_slices_Equal_etchhouse_api_Hole_etchhouse_api_Hole : Inst := ⟨40, Try.f40, .two (.reg []) (.two (.two (.reg []) (.two (.two (.reg []) (.leaf)) (.leaf))) (.two (.two (.reg []) (.one (.loop ⟨[(13, .pv i)], [], [0, 1, 12], []⟩ (.two (.reg []) (.two (.two (.leaf) (.leaf)) (.two (.one (.two (.reg []) (.two (.draw [] [0, 1, 2, 3, 4, 5, 6, 7, 8] []) (.two (.two (.reg []) (.leaf)) (.leaf))))) (.reg []))))))) (.two (.reg []) (.leaf)))), (.cons (.pv (.sl (.pair (.pair i (.pair i .unit)) (.pair i (.pair i (.pair .bool .unit)))))) (.cons (.pv (.sl (.pair (.pair i (.pair i .unit)) (.pair i (.pair i (.pair .bool .unit)))))) .nil)), (.cons .flat .bool .nil)⟩
theorem it_slices_Equal_etchhouse_api_Hole_etchhouse_api_Hole : InTab Try.prog I_slices_Equal_etchhouse_api_Hole_etchhouse_api_Hole := ⟨Try.func40, by kernel_rfl, rfl⟩
noncomputable def T_slices_Equal_etchhouse_api_Hole_etchhouse_api_Hole : Nat → Entry Try.prog := nth (Entry.no Try.f0) []
noncomputable def B_slices_Equal_etchhouse_api_Hole_etchhouse_api_Hole (n : Nat) (x0 : List ((Int × (Int × Unit)) × (Int × (Int × (Bool × Unit))))) (x1 : List ((Int × (Int × Unit)) × (Int × (Int × (Bool × Unit))))) : Option (((Bool × Unit) × (Unit × (Unit × Unit)))) :=
  (bif (!(decide ((((x0.length : Nat) : Int) = ((x1.length : Nat) : Int))))) then
    some ((false, ()), ((), ((), ())))
  else
    loopN (fun rec1 => fun
    | ((v1aa, ()), ()) =>
      (bif decide ((v1aa < ((x0.length : Nat) : Int))) then
        (bif inB v1aa x0.length then
          (bif inB v1aa x1.length then
            (bif (!(Ty.eqv (.pair (.pair (.int .i64) (.pair (.int .i64) .unit)) (.pair (.int .i64) (.pair (.int .i64) (.pair .bool .unit)))) (x0.getD v1aa.toNat ((0, (0, ())), (0, (0, (false, ()))))) (x1.getD v1aa.toNat ((0, (0, ())), (0, (0, (false, ()))))))) then
              some ((false, ()), ((), ((), ())))
            else
              rec1 ((wrapI .i64 (v1aa + 1), ()), ()))
          else
            none)
        else
          none)
      else
        some ((true, ()), ((), ((), ())))))
    n ((0, ()), ()))
theorem B_slices_Equal_etchhouse_api_Hole_etchhouse_api_Hole_eq (n : Nat) (x0 : List ((Int × (Int × Unit)) × (Int × (Int × (Bool × Unit))))) (x1 : List ((Int × (Int × Unit)) × (Int × (Int × (Bool × Unit))))) : bodyE ty T_slices_Equal_etchhouse_api_Hole_etchhouse_api_Hole n I_slices_Equal_etchhouse_api_Hole_etchhouse_api_Hole (x0, (x1, ())) = B_slices_Equal_etchhouse_api_Hole_etchhouse_api_Hole n x0 x1 := by kernel_rfl

end Go.Proofs.Ytmhhodnackfhmaa
namespace Go.Proofs.Ytmhhodnackfhmaa
open Go Go.VM
theorem ok_slices_Equal_etchhouse_api_Hole_etchhouse_api_Hole (x0 x1 : List ((Int × (Int × Unit)) × (Int × (Int × (Bool × Unit))))) (hok : OkA I_slices_Equal_etchhouse_api_Hole_etchhouse_api_Hole.args (x0, x1, ())) : ∃ n, bodyE ty T_slices_Equal_etchhouse_api_Hole_etchhouse_api_Hole n I_slices_Equal_etchhouse_api_Hole_etchhouse_api_Hole (x0, x1, ()) = some ((decide (x0 = x1), ()), ((), (), ())) := ⟨x0.length + 1, by
  obtain ⟨⟨hl, _⟩, _⟩ := hok
  rw [B_slices_Equal_etchhouse_api_Hole_etchhouse_api_Hole_eq]
  unfold B_slices_Equal_etchhouse_api_Hole_etchhouse_api_Hole
  exact equal_loop (q := fun x y : ((Int × (Int × Unit)) × (Int × (Int × (Bool × Unit)))) => Ty.eqv (.pair (.pair i (.pair i .unit)) (.pair i (.pair i (.pair .bool .unit)))) x y) (fun x y => by rw [Bool.eq_iff_iff, eqv_iff (t := (.pair (.pair i (.pair i .unit)) (.pair i (.pair i (.pair .bool .unit))))) rfl]; simp) (R := fun b => ((b, ()), ((), (), ()))) (d := ((0, (0, ())), (0, (0, (false, ()))))) hl (Nat.lt_succ_self _)⟩
noncomputable def E_slices_Equal_etchhouse_api_Hole_etchhouse_api_Hole : Entry Try.prog := Entry.of tok T_slices_Equal_etchhouse_api_Hole_etchhouse_api_Hole I_slices_Equal_etchhouse_api_Hole_etchhouse_api_Hole it_slices_Equal_etchhouse_api_Hole_etchhouse_api_Hole (fun (x0, x1, ()) => some ((decide (x0 = x1), ()), ((), (), ()))) (fun (x0, x1, ()) r hok h => by cases h; exact ok_slices_Equal_etchhouse_api_Hole_etchhouse_api_Hole x0 x1 hok)

end Go.Proofs.Ytmhhodnackfhmaa
namespace Go.Proofs.Ytmhhodnackfhmaa
open Go Go.VM
/-! ### etchhouse.etchhouseref8.SameJobs -/
noncomputable def I_etchhouseref8_SameJobs : Inst := ⟨14, Try.f14, .two (.reg []) (.two (.two (.reg []) (.two (.two (.reg []) (.leaf)) (.leaf))) (.two (.two (.reg []) (.one (.loop ⟨[(13, .pv i)], [], [0, 1, 12], []⟩ (.two (.reg []) (.two (.two (.leaf) (.leaf)) (.two (.one (.two (.reg []) (.two (.draw [(22, 0)] [0, 1, 2, 3, 4, 5, 6, 7, 8, 9, 10, 11, 12, 13, 14, 15, 16, 17, 18, 19, 20, 21, 22, 23, 24] []) (.two (.two (.reg []) (.leaf)) (.leaf))))) (.reg []))))))) (.two (.reg []) (.leaf)))), (.cons (.pv (.sl (.pair .str (.pair (.sl (.pair (.pair i (.pair i .unit)) (.pair i (.pair i (.pair .bool .unit))))) .unit)))) (.cons (.pv (.sl (.pair .str (.pair (.sl (.pair (.pair i (.pair i .unit)) (.pair i (.pair i (.pair .bool .unit))))) .unit)))) .nil)), (.cons .flat .bool .nil)⟩
theorem it_etchhouseref8_SameJobs : InTab Try.prog I_etchhouseref8_SameJobs := ⟨Try.func14, by kernel_rfl, rfl⟩
noncomputable def T_etchhouseref8_SameJobs : Nat → Entry Try.prog := nth (Entry.no Try.f0) [E_slices_Equal_etchhouse_api_Hole_etchhouse_api_Hole]
noncomputable def B_etchhouseref8_SameJobs (n : Nat) (x0 : List (ByteArray × (List ((Int × (Int × Unit)) × (Int × (Int × (Bool × Unit)))) × Unit))) (x1 : List (ByteArray × (List ((Int × (Int × Unit)) × (Int × (Int × (Bool × Unit)))) × Unit))) : Option (((Bool × Unit) × (Unit × (Unit × Unit)))) :=
  (bif (!(decide ((((x0.length : Nat) : Int) = ((x1.length : Nat) : Int))))) then
    some ((false, ()), ((), ((), ())))
  else
    loopN (fun rec1 => fun
    | ((v1aa, ()), ()) =>
      (bif decide ((v1aa < ((x0.length : Nat) : Int))) then
        (bif inB v1aa x0.length then
          (bif inB v1aa x1.length then
            (bif (!(decide ((ByteArray.toList ((x0.getD v1aa.toNat ((strOf []), ([], ()))).1) = ByteArray.toList ((x1.getD v1aa.toNat ((strOf []), ([], ()))).1))))) then
              some ((false, ()), ((), ((), ())))
            else
              (bif inB v1aa x0.length then
                (bif inB v1aa x1.length then
                  (bif (!(decide ((((x0.getD v1aa.toNat ((strOf []), ([], ()))).2).1 = ((x1.getD v1aa.toNat ((strOf []), ([], ()))).2).1)))) then
                    some ((false, ()), ((), ((), ())))
                  else
                    rec1 ((wrapI .i64 (v1aa + 1), ()), ()))
                else
                  none)
              else
                none))
          else
            none)
        else
          none)
      else
        some ((true, ()), ((), ((), ())))))
    n ((0, ()), ()))
theorem B_etchhouseref8_SameJobs_eq (n : Nat) (x0 : List (ByteArray × (List ((Int × (Int × Unit)) × (Int × (Int × (Bool × Unit)))) × Unit))) (x1 : List (ByteArray × (List ((Int × (Int × Unit)) × (Int × (Int × (Bool × Unit)))) × Unit))) : bodyE ty T_etchhouseref8_SameJobs n I_etchhouseref8_SameJobs (x0, (x1, ())) = B_etchhouseref8_SameJobs n x0 x1 := by kernel_rfl

end Go.Proofs.Ytmhhodnackfhmaa
namespace Go.Proofs.Ytmhhodnackfhmaa
open Go Go.VM
def sameC (b : List Job) (x : Job) (i : Nat) : Int := bif !decide (x.1 = (b.getD i job0).1) then 1 else bif !decide (x.2.1 = (b.getD i job0).2.1) then 1 else 0
def S_sameJ (a b : List Job) : Bool := decide ((a.length : Int) = (b.length : Int)) && decide (firstC (sameC b) a 0 = 0)
theorem sameJ_refl (a : List Job) : S_sameJ a a = true := by
  unfold S_sameJ
  rw [decide_eq_true rfl, Bool.true_and]
  refine decide_eq_true (first_all a 0 fun i x hi => ?_)
  rw [Nat.zero_add]
  unfold sameC
  have : a.getD i job0 = x := by rw [List.getD_eq_getElem?_getD, hi]; rfl
  rw [this]
  simp
theorem ok_etchhouseref8_SameJobs (x0 x1 : List Job) (hok : OkA I_etchhouseref8_SameJobs.args (x0, x1, ())) : ∃ n, bodyE ty T_etchhouseref8_SameJobs n I_etchhouseref8_SameJobs (x0, x1, ()) = some ((S_sameJ x0 x1, ()), ((), (), ())) := ⟨x0.length + 1, by
  have hl : x0.length ≤ maxLen := hok.1.1
  rw [B_etchhouseref8_SameJobs_eq]
  unfold B_etchhouseref8_SameJobs S_sameJ
  cases hd : decide (((x0.length : Nat) : Int) = ((x1.length : Nat) : Int)) with
  | false => rfl
  | true =>
  have hd := of_decide_eq_true hd
  simp only [Bool.not_true, cond_false, Bool.true_and]
  refine (loop_list (l := x0) (fun i (_ : Unit) => ((i, ()), ())) (fun x i _ => bif decide (sameC x1 x i = 0) then .inl () else .inr (some ((false, ()), ((), (), ())))) (fun _ => some ((true, ()), ((), (), ()))) (fun i h s rec => ?_) (fun s rec => by simp only [lt_self, cond_false]) (Nat.lt_succ_self _) ()).trans ?_
  · simp only [lt_nat h, inB_nat h, inB_nat (show i < x1.length by omega), getD_at h, succ64 h hl, cond_true, Int.toNat_natCast, str_dec]
    unfold sameC
    change (bif !decide (x0[i].1 = (x1.getD i job0).1) then _ else bif !decide (x0[i].2.1 = (x1.getD i job0).2.1) then _ else _) = _
    cases decide (x0[i].1 = (x1.getD i job0).1) <;> cases decide (x0[i].2.1 = (x1.getD i job0).2.1) <;> rfl
  · rw [first_go (f := sameC x1) (R := fun _ => some ((false, ()), ((), (), ())))]
    cases decide (firstC (sameC x1) x0 0 = 0) <;> rfl⟩
noncomputable def E_etchhouseref8_SameJobs : Entry Try.prog := Entry.of tok T_etchhouseref8_SameJobs I_etchhouseref8_SameJobs it_etchhouseref8_SameJobs (fun (x0, x1, ()) => some ((S_sameJ x0 x1, ()), ((), (), ()))) (fun (x0, x1, ()) r hok h => by cases h; exact ok_etchhouseref8_SameJobs x0 x1 hok)

end Go.Proofs.Ytmhhodnackfhmaa
namespace Go.Proofs.Ytmhhodnackfhmaa
open Go Go.VM
/-! ### slices.Equal[[]int,int] -/
noncomputable def I_slices_Equal_int_int : Inst := ⟨15, Try.f15, .two (.reg []) (.two (.two (.reg []) (.two (.two (.reg []) (.leaf)) (.leaf))) (.two (.two (.reg []) (.one (.loop ⟨[(13, .pv i)], [], [0, 1, 12], []⟩ (.two (.reg []) (.two (.two (.leaf) (.leaf)) (.two (.one (.two (.reg []) (.two (.draw [] [0, 1, 2, 3, 4, 5, 6, 7, 8] []) (.two (.two (.reg []) (.leaf)) (.leaf))))) (.reg []))))))) (.two (.reg []) (.leaf)))), (.cons (.pv (.sl i)) (.cons (.pv (.sl i)) .nil)), (.cons .flat .bool .nil)⟩
theorem it_slices_Equal_int_int : InTab Try.prog I_slices_Equal_int_int := ⟨Try.func15, by kernel_rfl, rfl⟩
noncomputable def T_slices_Equal_int_int : Nat → Entry Try.prog := nth (Entry.no Try.f0) []
noncomputable def B_slices_Equal_int_int (n : Nat) (x0 : List Int) (x1 : List Int) : Option (((Bool × Unit) × (Unit × (Unit × Unit)))) :=
  (bif (!(decide ((((x0.length : Nat) : Int) = ((x1.length : Nat) : Int))))) then
    some ((false, ()), ((), ((), ())))
  else
    loopN (fun rec1 => fun
    | ((v1aa, ()), ()) =>
      (bif decide ((v1aa < ((x0.length : Nat) : Int))) then
        (bif inB v1aa x0.length then
          (bif inB v1aa x1.length then
            (bif (!(decide ((x0.getD v1aa.toNat (0 : Int) = x1.getD v1aa.toNat (0 : Int))))) then
              some ((false, ()), ((), ((), ())))
            else
              rec1 ((wrapI .i64 (v1aa + 1), ()), ()))
          else
            none)
        else
          none)
      else
        some ((true, ()), ((), ((), ())))))
    n ((0, ()), ()))
theorem B_slices_Equal_int_int_eq (n : Nat) (x0 : List Int) (x1 : List Int) : bodyE ty T_slices_Equal_int_int n I_slices_Equal_int_int (x0, (x1, ())) = B_slices_Equal_int_int n x0 x1 := by kernel_rfl

end Go.Proofs.Ytmhhodnackfhmaa
namespace Go.Proofs.Ytmhhodnackfhmaa
open Go Go.VM
theorem eqL : ∀ (d i : Nat) (a b : List Int), i + d = a.length → a.length = b.length → ∀ n, d < n → a.length ≤ maxLen →
    loopN (fun rec2 => fun
    | ((v2aa, ()), ()) =>
      (bif decide ((v2aa < ((a.length : Nat) : Int))) then
        (bif inB v2aa a.length then
          (bif inB v2aa b.length then
            (bif (!(decide ((a.getD v2aa.toNat 0 = b.getD v2aa.toNat 0)))) then
              some ((false, ()), ((), (), ()))
            else
              rec2 ((wrapI .i64 (v2aa + 1), ()), ()))
          else
            none)
        else
          none)
      else
        some ((true, ()), ((), (), ())))) n ((((i : Nat) : Int), ()), ()) = some ((decide (a.drop i = b.drop i), ()), ((), (), ())) := by
  intro d
  induction d with
  | zero =>
    intro i a b hi hab n hn hl
    obtain ⟨m, rfl⟩ : ∃ m, n = m + 1 := ⟨n - 1, by omega⟩
    obtain rfl : i = a.length := by omega
    rw [loopN_succ]
    simp only [lt_self, cond_false]
    rw [List.drop_length, hab, List.drop_length]
    simp
  | succ d ih =>
    intro i a b hi hab n hn hl
    obtain ⟨m, rfl⟩ : ∃ m, n = m + 1 := ⟨n - 1, by omega⟩
    have h : i < a.length := by omega
    have h2 : i < b.length := by omega
    rw [loopN_succ]
    simp only [lt_nat h, inB_nat h, inB_nat h2, getD_lt h, getD_lt h2, succ64 h hl, cond_true]
    rw [ih (i + 1) a b (by omega) hab m (by omega) hl, List.drop_eq_getElem_cons h, List.drop_eq_getElem_cons h2]
    by_cases e : a[i] = b[i]
    · have : decide (a[i] = b[i]) = true := decide_eq_true e
      rw [this, Bool.not_true, cond_false]
      have : decide (a[i] :: List.drop (i + 1) a = b[i] :: List.drop (i + 1) b) = decide (List.drop (i + 1) a = List.drop (i + 1) b) := by simp only [e, List.cons.injEq, true_and]
      rw [this]
    · have : decide (a[i] = b[i]) = false := decide_eq_false e
      rw [this, Bool.not_false, cond_true]
      have : decide (a[i] :: List.drop (i + 1) a = b[i] :: List.drop (i + 1) b) = false := decide_eq_false fun c => e (List.cons.inj c).1
      rw [this]
theorem ok_slices_Equal_int_int (x0 x1 : List Int) (hok : OkA I_slices_Equal_int_int.args (x0, x1, ())) : ∃ n, bodyE ty T_slices_Equal_int_int n I_slices_Equal_int_int (x0, x1, ()) = some ((decide (x0 = x1), ()), ((), (), ())) := ⟨x0.length + 1, by
  obtain ⟨⟨hl, _⟩, _⟩ := hok
  rw [B_slices_Equal_int_int_eq]
  unfold B_slices_Equal_int_int
  by_cases e : x0.length = x1.length
  · have : decide (((x0.length : Nat) : Int) = ((x1.length : Nat) : Int)) = true := by simp [e]
    simp only [this, Bool.not_true, cond_false]
    exact eqL x0.length 0 x0 x1 (by omega) e _ (Nat.lt_succ_self _) hl
  · have : decide (((x0.length : Nat) : Int) = ((x1.length : Nat) : Int)) = false := by simp; omega
    simp only [this, Bool.not_false, cond_true]
    have : decide (x0 = x1) = false := by simp; intro c; exact e (by rw [c])
    rw [this]⟩
noncomputable def E_slices_Equal_int_int : Entry Try.prog := Entry.of tok T_slices_Equal_int_int I_slices_Equal_int_int it_slices_Equal_int_int (fun (x0, x1, ()) => some ((decide (x0 = x1), ()), ((), (), ()))) (fun (x0, x1, ()) r hok h => by cases h; exact ok_slices_Equal_int_int x0 x1 hok)

end Go.Proofs.Ytmhhodnackfhmaa
namespace Go.Proofs.Ytmhhodnackfhmaa
open Go Go.VM
/-! ### etchhouse.drill.checkPoints$1 -/
noncomputable def I_drill_checkPoints_1 : Inst := ⟨71, Try.f71, .two (.reg []) (.two (.reg [(1, 0)]) (.leaf)), (.cons (.pv (.pair i (.pair i .unit))) .nil), (.cons .flat .bool .nil)⟩
theorem it_drill_checkPoints_1 : InTab Try.prog I_drill_checkPoints_1 := ⟨Try.func71, by kernel_rfl, rfl⟩
noncomputable def T_drill_checkPoints_1 : Nat → Entry Try.prog := nth (Entry.no Try.f0) [E_shape_IsPoint]
noncomputable def B_drill_checkPoints_1 (x0 : (Int × (Int × Unit))) : Option (((Bool × Unit) × (Unit × Unit))) :=
  some (((!(S_isPt x0)), ()), ((), ()))
theorem B_drill_checkPoints_1_eq (n : Nat) (x0 : (Int × (Int × Unit))) : bodyE ty T_drill_checkPoints_1 n I_drill_checkPoints_1 (x0, ()) = B_drill_checkPoints_1 x0 := by kernel_rfl

end Go.Proofs.Ytmhhodnackfhmaa
namespace Go.Proofs.Ytmhhodnackfhmaa
open Go Go.VM
theorem ok_drill_checkPoints_1 (x0 : Int × Int × Unit) (hok : OkA I_drill_checkPoints_1.args (x0, ())) : ∃ n, bodyE ty T_drill_checkPoints_1 n I_drill_checkPoints_1 (x0, ()) = some ((!S_isPt x0, ()), ((), ())) := ⟨0, by rw [B_drill_checkPoints_1_eq]; rfl⟩
noncomputable def E_drill_checkPoints_1 : Entry Try.prog := Entry.of tok T_drill_checkPoints_1 I_drill_checkPoints_1 it_drill_checkPoints_1 (fun (x0, ()) => some ((!S_isPt x0, ()), ((), ()))) (fun (x0, ()) r hok h => by cases h; exact ok_drill_checkPoints_1 x0 hok)

end Go.Proofs.Ytmhhodnackfhmaa
namespace Go.Proofs.Ytmhhodnackfhmaa
open Go Go.VM
/-! ### slices.IndexFunc[[]etchhouse.api.Point,etchhouse.api.Point] -/
noncomputable def I_slices_IndexFunc_etchhouse_api_Point_etchhouse_api_Point_of_drill_checkPoints_1 : Inst := ⟨88, Try.f88, .two (.reg []) (.two (.two (.reg []) (.one (.loop ⟨[(8, .pv i)], [], [0, 1, 7], []⟩ (.two (.reg []) (.two (.two (.leaf) (.leaf)) (.two (.one (.two (.reg []) (.two (.reg [(5, 0)]) (.two (.two (.reg []) (.leaf)) (.leaf))))) (.reg []))))))) (.two (.reg []) (.leaf))), (.cons (.pv (.sl (.pair i (.pair i .unit)))) (.cons (.fn 71 .nil) .nil)), (.cons .flat i .nil)⟩
theorem it_slices_IndexFunc_etchhouse_api_Point_etchhouse_api_Point_of_drill_checkPoints_1 : InTab Try.prog I_slices_IndexFunc_etchhouse_api_Point_etchhouse_api_Point_of_drill_checkPoints_1 := ⟨Try.func88, by kernel_rfl, rfl⟩
noncomputable def T_slices_IndexFunc_etchhouse_api_Point_etchhouse_api_Point_of_drill_checkPoints_1 : Nat → Entry Try.prog := nth (Entry.no Try.f0) [E_drill_checkPoints_1]
noncomputable def B_slices_IndexFunc_etchhouse_api_Point_etchhouse_api_Point_of_drill_checkPoints_1 (n : Nat) (x0 : List (Int × (Int × Unit))) (x1 : Unit) : Option (((Int × Unit) × (Unit × (Unit × Unit)))) :=
  loopN (fun rec1 => fun
  | ((v1aa, ()), ()) =>
    (bif decide ((v1aa < ((x0.length : Nat) : Int))) then
      (bif inB v1aa x0.length then
        (bif (!(S_isPt (x0.getD v1aa.toNat (0, (0, ()))))) then
          some ((v1aa, ()), ((), ((), ())))
        else
          rec1 ((wrapI .i64 (v1aa + 1), ()), ()))
      else
        none)
    else
      some (((-1), ()), ((), ((), ())))))
  n ((0, ()), ())
theorem B_slices_IndexFunc_etchhouse_api_Point_etchhouse_api_Point_of_drill_checkPoints_1_eq (n : Nat) (x0 : List (Int × (Int × Unit))) (x1 : Unit) : bodyE ty T_slices_IndexFunc_etchhouse_api_Point_etchhouse_api_Point_of_drill_checkPoints_1 n I_slices_IndexFunc_etchhouse_api_Point_etchhouse_api_Point_of_drill_checkPoints_1 (x0, (x1, ())) = B_slices_IndexFunc_etchhouse_api_Point_etchhouse_api_Point_of_drill_checkPoints_1 n x0 x1 := by kernel_rfl

end Go.Proofs.Ytmhhodnackfhmaa
namespace Go.Proofs.Ytmhhodnackfhmaa
open Go Go.VM
def S_idxPt : List (Int × Int × Unit) → Nat → Int
  | [], _ => -1
  | a :: r, i => bif S_isPt a then S_idxPt r (i + 1) else (i : Int)
theorem idxPt_neg : ∀ (l : List (Int × Int × Unit)) (i : Nat), decide (0 ≤ S_idxPt l i) = !l.all S_isPt
  | [], i => by simp [S_idxPt]
  | a :: r, i => by
    have ih := idxPt_neg r (i + 1)
    by_cases h : S_isPt a = true
    · have : S_idxPt (a :: r) i = S_idxPt r (i + 1) := by simp only [S_idxPt, h, cond_true]
      rw [this, ih]; simp [h]
    · have h : S_isPt a = false := by simpa using h
      have : S_idxPt (a :: r) i = i := by simp only [S_idxPt, h, cond_false]
      rw [this]; simp [h]
theorem ok_slices_IndexFunc_etchhouse_api_Point_etchhouse_api_Point_of_drill_checkPoints_1 (x0 : List (Int × Int × Unit)) (hok : OkA I_slices_IndexFunc_etchhouse_api_Point_etchhouse_api_Point_of_drill_checkPoints_1.args (x0, (), ())) : ∃ n, bodyE ty T_slices_IndexFunc_etchhouse_api_Point_etchhouse_api_Point_of_drill_checkPoints_1 n I_slices_IndexFunc_etchhouse_api_Point_etchhouse_api_Point_of_drill_checkPoints_1 (x0, (), ()) = some ((S_idxPt x0 0, ()), ((), (), ())) := ⟨x0.length + 1, by
  obtain ⟨⟨hl, _⟩, _⟩ := hok
  rw [B_slices_IndexFunc_etchhouse_api_Point_etchhouse_api_Point_of_drill_checkPoints_1_eq]
  unfold B_slices_IndexFunc_etchhouse_api_Point_etchhouse_api_Point_of_drill_checkPoints_1
  refine (loop_list (l := x0) (fun i (_ : Unit) => ((i, ()), ())) (fun a i _ => bif S_isPt a then .inl () else .inr (some (((i : Int), ()), ((), (), ())))) (fun _ => some ((-1, ()), ((), (), ()))) (fun i h s rec => ?_) (fun s rec => ?_) (Nat.lt_succ_self _) ()).trans ?_
  · simp only [lt_nat h, inB_nat h, getD_lt h, succ64 h hl, cond_true]
    cases S_isPt x0[i] <;> rfl
  · simp only [lt_self, cond_false]
  · have : ∀ (l : List (Int × Int × Unit)) i, goL (fun a i (_ : Unit) => bif S_isPt a then .inl () else .inr (some (((i : Int), ()), ((), (), ())))) (fun _ => some ((-1, ()), ((), (), ()))) l i () = some ((S_idxPt l i, ()), ((), (), ())) := by
      intro l
      induction l with
      | nil => intro i; rfl
      | cons a r ih =>
        intro i
        simp only [goL, S_idxPt]
        cases S_isPt a with
        | true => simpa using ih (i + 1)
        | false => rfl
    exact this x0 0⟩
noncomputable def E_slices_IndexFunc_etchhouse_api_Point_etchhouse_api_Point_of_drill_checkPoints_1 : Entry Try.prog := Entry.of tok T_slices_IndexFunc_etchhouse_api_Point_etchhouse_api_Point_of_drill_checkPoints_1 I_slices_IndexFunc_etchhouse_api_Point_etchhouse_api_Point_of_drill_checkPoints_1 it_slices_IndexFunc_etchhouse_api_Point_etchhouse_api_Point_of_drill_checkPoints_1 (fun (x0, (), ()) => some ((S_idxPt x0 0, ()), ((), (), ()))) (fun (x0, (), ()) r hok h => by cases h; exact ok_slices_IndexFunc_etchhouse_api_Point_etchhouse_api_Point_of_drill_checkPoints_1 x0 hok)

end Go.Proofs.Ytmhhodnackfhmaa
namespace Go.Proofs.Ytmhhodnackfhmaa
open Go Go.VM
/-! ### slices.ContainsFunc[[]etchhouse.api.Point,etchhouse.api.Point] -/
noncomputable def I_slices_ContainsFunc_etchhouse_api_Point_etchhouse_api_Point_of_drill_checkPoints_1 : Inst := ⟨70, Try.f70, .two (.reg []) (.two (.reg [(2, 0)]) (.leaf)), (.cons (.pv (.sl (.pair i (.pair i .unit)))) (.cons (.fn 71 .nil) .nil)), (.cons .flat .bool .nil)⟩
theorem it_slices_ContainsFunc_etchhouse_api_Point_etchhouse_api_Point_of_drill_checkPoints_1 : InTab Try.prog I_slices_ContainsFunc_etchhouse_api_Point_etchhouse_api_Point_of_drill_checkPoints_1 := ⟨Try.func70, by kernel_rfl, rfl⟩
noncomputable def T_slices_ContainsFunc_etchhouse_api_Point_etchhouse_api_Point_of_drill_checkPoints_1 : Nat → Entry Try.prog := nth (Entry.no Try.f0) [E_slices_IndexFunc_etchhouse_api_Point_etchhouse_api_Point_of_drill_checkPoints_1]
noncomputable def B_slices_ContainsFunc_etchhouse_api_Point_etchhouse_api_Point_of_drill_checkPoints_1 (x0 : List (Int × (Int × Unit))) (x1 : Unit) : Option (((Bool × Unit) × (Unit × (Unit × Unit)))) :=
  some ((decide ((0 ≤ S_idxPt x0 0)), ()), ((), ((), ())))
theorem B_slices_ContainsFunc_etchhouse_api_Point_etchhouse_api_Point_of_drill_checkPoints_1_eq (n : Nat) (x0 : List (Int × (Int × Unit))) (x1 : Unit) : bodyE ty T_slices_ContainsFunc_etchhouse_api_Point_etchhouse_api_Point_of_drill_checkPoints_1 n I_slices_ContainsFunc_etchhouse_api_Point_etchhouse_api_Point_of_drill_checkPoints_1 (x0, (x1, ())) = B_slices_ContainsFunc_etchhouse_api_Point_etchhouse_api_Point_of_drill_checkPoints_1 x0 x1 := by kernel_rfl

end Go.Proofs.Ytmhhodnackfhmaa
namespace Go.Proofs.Ytmhhodnackfhmaa
open Go Go.VM
noncomputable def E_slices_ContainsFunc_etchhouse_api_Point_etchhouse_api_Point_of_drill_checkPoints_1 : Entry Try.prog := Entry.of tok T_slices_ContainsFunc_etchhouse_api_Point_etchhouse_api_Point_of_drill_checkPoints_1 I_slices_ContainsFunc_etchhouse_api_Point_etchhouse_api_Point_of_drill_checkPoints_1 it_slices_ContainsFunc_etchhouse_api_Point_etchhouse_api_Point_of_drill_checkPoints_1 (fun x => B_slices_ContainsFunc_etchhouse_api_Point_etchhouse_api_Point_of_drill_checkPoints_1 x.1 x.2.1) (fun (a0, a1, ()) r _ h => ⟨0, (B_slices_ContainsFunc_etchhouse_api_Point_etchhouse_api_Point_of_drill_checkPoints_1_eq 0 a0 a1).trans h⟩)

end Go.Proofs.Ytmhhodnackfhmaa
namespace Go.Proofs.Ytmhhodnackfhmaa
open Go Go.VM
/-! ### etchhouse.drill.checkPoints -/
noncomputable def I_drill_checkPoints : Inst := ⟨56, Try.f56, .two (.reg []) (.two (.two (.reg []) (.two (.two (.reg []) (.leaf)) (.leaf))) (.two (.two (.reg [(1, 0), (5, 1)]) (.two (.two (.reg []) (.leaf)) (.leaf))) (.two (.reg []) (.leaf)))), (.cons (.pv (.sl (.pair i (.pair i .unit)))) (.cons (.pv (.pair i (.pair i .unit))) (.cons (.pv i) .nil))), (.cons .flat i .nil)⟩
theorem it_drill_checkPoints : InTab Try.prog I_drill_checkPoints := ⟨Try.func56, by kernel_rfl, rfl⟩
noncomputable def T_drill_checkPoints : Nat → Entry Try.prog := nth (Entry.no Try.f0) [E_shape_IsPoint, E_slices_ContainsFunc_etchhouse_api_Point_etchhouse_api_Point_of_drill_checkPoints_1]
noncomputable def B_drill_checkPoints (x0 : List (Int × (Int × Unit))) (x1 : (Int × (Int × Unit))) (x2 : Int) : Option (((Int × Unit) × (Unit × (Unit × (Unit × Unit))))) :=
  (bif decide ((x2 < ((x0.length : Nat) : Int))) then
    some ((2, ()), ((), ((), ((), ()))))
  else
    (bif (!(S_isPt x1)) then
      some ((1, ()), ((), ((), ((), ()))))
    else
      ((B_slices_ContainsFunc_etchhouse_api_Point_etchhouse_api_Point_of_drill_checkPoints_1 x0 ()).bind fun ((r1aa, ()), ((), ((), ()))) =>
      (bif r1aa then
        some ((1, ()), ((), ((), ((), ()))))
      else
        some ((0, ()), ((), ((), ((), ()))))))))
theorem B_drill_checkPoints_eq (n : Nat) (x0 : List (Int × (Int × Unit))) (x1 : (Int × (Int × Unit))) (x2 : Int) : bodyE ty T_drill_checkPoints n I_drill_checkPoints (x0, (x1, (x2, ()))) = B_drill_checkPoints x0 x1 x2 := by kernel_rfl

end Go.Proofs.Ytmhhodnackfhmaa
namespace Go.Proofs.Ytmhhodnackfhmaa
open Go Go.VM
def S_chk (l : List Pt) (p : Pt) (most : Int) : Int := bif decide (most < (l.length : Int)) then 2 else bif S_isPt p && l.all S_isPt then 0 else 1
theorem ok_drill_checkPoints (x0 : List Pt) (x1 : Pt) (x2 : Int) (hok : OkA I_drill_checkPoints.args (x0, x1, x2, ())) : ∃ n, bodyE ty T_drill_checkPoints n I_drill_checkPoints (x0, x1, x2, ()) = some ((S_chk x0 x1 x2, ()), ((), (), (), ())) := ⟨0, by
  rw [B_drill_checkPoints_eq]
  unfold B_drill_checkPoints S_chk
  cases decide (x2 < (x0.length : Int)) with
  | true => rfl
  | false =>
    cases S_isPt x1 with
    | false => rfl
    | true =>
      have : B_slices_ContainsFunc_etchhouse_api_Point_etchhouse_api_Point_of_drill_checkPoints_1 x0 () = some ((!x0.all S_isPt, ()), ((), ((), ()))) := by
        unfold B_slices_ContainsFunc_etchhouse_api_Point_etchhouse_api_Point_of_drill_checkPoints_1
        rw [idxPt_neg]
      simp only [cond_false, Bool.not_true, this, Option.bind_some, Bool.true_and]
      cases x0.all S_isPt <;> rfl⟩
noncomputable def E_drill_checkPoints : Entry Try.prog := Entry.of tok T_drill_checkPoints I_drill_checkPoints it_drill_checkPoints (fun (x0, x1, x2, ()) => some ((S_chk x0 x1 x2, ()), ((), (), (), ()))) (fun (x0, x1, x2, ()) r hok h => by cases h; exact ok_drill_checkPoints x0 x1 x2 hok)

end Go.Proofs.Ytmhhodnackfhmaa
namespace Go.Proofs.Ytmhhodnackfhmaa
open Go Go.VM
/-! ### etchhouse.drill.apart -/
noncomputable def I_drill_apart : Inst := ⟨74, Try.f74, .two (.reg []) (.two (.reg []) (.leaf)), (.cons (.pv i) (.cons (.pv i) .nil)), (.cons .flat i .nil)⟩
theorem it_drill_apart : InTab Try.prog I_drill_apart := ⟨Try.func74, by kernel_rfl, rfl⟩
noncomputable def T_drill_apart : Nat → Entry Try.prog := nth (Entry.no Try.f0) []
noncomputable def B_drill_apart (x0 : Int) (x1 : Int) : Option (((Int × Unit) × (Unit × (Unit × Unit)))) :=
  some (((bif decide ((wrapI .i64 (x0 - x1) < wrapI .i64 (x1 - x0))) then wrapI .i64 (x1 - x0) else wrapI .i64 (x0 - x1)), ()), ((), ((), ())))
theorem B_drill_apart_eq (n : Nat) (x0 : Int) (x1 : Int) : bodyE ty T_drill_apart n I_drill_apart (x0, (x1, ())) = B_drill_apart x0 x1 := by kernel_rfl

end Go.Proofs.Ytmhhodnackfhmaa
namespace Go.Proofs.Ytmhhodnackfhmaa
open Go Go.VM
def S_apart (a b : Int) : Int := bif decide (wrapI .i64 (a - b) < wrapI .i64 (b - a)) then wrapI .i64 (b - a) else wrapI .i64 (a - b)
theorem ok_drill_apart (x0 x1 : Int) (hok : OkA I_drill_apart.args (x0, x1, ())) : ∃ n, bodyE ty T_drill_apart n I_drill_apart (x0, x1, ()) = some ((S_apart x0 x1, ()), ((), (), ())) := ⟨0, by rw [B_drill_apart_eq]; rfl⟩
noncomputable def E_drill_apart : Entry Try.prog := Entry.of tok T_drill_apart I_drill_apart it_drill_apart (fun (x0, x1, ()) => some ((S_apart x0 x1, ()), ((), (), ()))) (fun (x0, x1, ()) r hok h => by cases h; exact ok_drill_apart x0 x1 hok)

end Go.Proofs.Ytmhhodnackfhmaa
namespace Go.Proofs.Ytmhhodnackfhmaa
open Go Go.VM
/-! ### etchhouse.drill.far -/
noncomputable def I_drill_far : Inst := ⟨62, Try.f62, .two (.reg []) (.two (.draw [(4, 0), (9, 0)] [0, 1, 2, 3, 5, 6, 7, 8, 4, 9, 10, 11] [3, 2]) (.leaf)), (.cons (.pv (.pair i (.pair i .unit))) (.cons (.pv (.pair i (.pair i .unit))) .nil)), (.cons .flat i .nil)⟩
theorem it_drill_far : InTab Try.prog I_drill_far := ⟨Try.func62, by kernel_rfl, rfl⟩
noncomputable def T_drill_far : Nat → Entry Try.prog := nth (Entry.no Try.f0) [E_drill_apart]
noncomputable def B_drill_far (x0 : (Int × (Int × Unit))) (x1 : (Int × (Int × Unit))) : Option (((Int × Unit) × (Unit × (Unit × Unit)))) :=
  some (((bif decide ((S_apart x0.1 x1.1 < S_apart x0.2.1 x1.2.1)) then S_apart x0.2.1 x1.2.1 else S_apart x0.1 x1.1), ()), ((), ((), ())))
theorem B_drill_far_eq (n : Nat) (x0 : (Int × (Int × Unit))) (x1 : (Int × (Int × Unit))) : bodyE ty T_drill_far n I_drill_far (x0, (x1, ())) = B_drill_far x0 x1 := by kernel_rfl

end Go.Proofs.Ytmhhodnackfhmaa
namespace Go.Proofs.Ytmhhodnackfhmaa
open Go Go.VM
def S_far (p q : Pt) : Int := bif decide (S_apart p.1 q.1 < S_apart p.2.1 q.2.1) then S_apart p.2.1 q.2.1 else S_apart p.1 q.1
theorem ok_drill_far (x0 x1 : Pt) (hok : OkA I_drill_far.args (x0, x1, ())) : ∃ n, bodyE ty T_drill_far n I_drill_far (x0, x1, ()) = some ((S_far x0 x1, ()), ((), (), ())) := ⟨0, by rw [B_drill_far_eq]; rfl⟩
noncomputable def E_drill_far : Entry Try.prog := Entry.of tok T_drill_far I_drill_far it_drill_far (fun (x0, x1, ()) => some ((S_far x0 x1, ()), ((), (), ()))) (fun (x0, x1, ()) r hok h => by cases h; exact ok_drill_far x0 x1 hok)

end Go.Proofs.Ytmhhodnackfhmaa
namespace Go.Proofs.Ytmhhodnackfhmaa
open Go Go.VM
/-! ### etchhouse.drill.way -/
noncomputable def I_drill_way : Inst := ⟨43, Try.f43, .two (.reg []) (.two (.reg []) (.two (.two (.reg []) (.one (.loop ⟨[(5, .pv i), (10, .pv i)], [(3, ⟨.flat, (.pair i (.pair i .unit)), true, false⟩)], [3, 8, 9], []⟩ (.two (.reg []) (.two (.two (.leaf) (.leaf)) (.two (.one (.two (.reg []) (.two (.reg [(3, 0)]) (.reg [])))) (.reg []))))))) (.two (.reg []) (.leaf)))), (.cons (.pv (.sl (.pair i (.pair i .unit)))) (.cons (.pv (.pair i (.pair i .unit))) .nil)), (.cons .flat i .nil)⟩
theorem it_drill_way : InTab Try.prog I_drill_way := ⟨Try.func43, by kernel_rfl, rfl⟩
noncomputable def T_drill_way : Nat → Entry Try.prog := nth (Entry.no Try.f0) [E_drill_far]
noncomputable def B_drill_way (n : Nat) (x0 : List (Int × (Int × Unit))) (x1 : (Int × (Int × Unit))) : Option (((Int × Unit) × (Unit × (Unit × Unit)))) :=
  loopN (fun rec1 => fun
  | ((v1aa, (v1aba, ())), ((v1baa, (v1baba, ())), ())) =>
    (bif decide ((v1aba < ((x0.length : Nat) : Int))) then
      (bif inB v1aba x0.length then
        rec1 ((wrapI .i64 (v1aa + S_far (v1baa, (v1baba, ())) (x0.getD v1aba.toNat (0, (0, ())))), (wrapI .i64 (v1aba + 1), ())), (x0.getD v1aba.toNat (0, (0, ())), ()))
      else
        none)
    else
      some ((v1aa, ()), ((), ((), ())))))
  n ((0, (0, ())), (x1, ()))
theorem B_drill_way_eq (n : Nat) (x0 : List (Int × (Int × Unit))) (x1 : (Int × (Int × Unit))) : bodyE ty T_drill_way n I_drill_way (x0, (x1, ())) = B_drill_way n x0 x1 := by kernel_rfl

end Go.Proofs.Ytmhhodnackfhmaa
namespace Go.Proofs.Ytmhhodnackfhmaa
open Go Go.VM
theorem ok_drill_way (x0 : List Pt) (x1 : Pt) (hok : OkA I_drill_way.args (x0, x1, ())) : ∃ n, bodyE ty T_drill_way n I_drill_way (x0, x1, ()) = some ((S_way S_far x0 x1, ()), ((), (), ())) := ⟨x0.length + 1, by
  obtain ⟨⟨hl, _⟩, _⟩ := hok
  rw [B_drill_way_eq]
  unfold B_drill_way
  refine (loop_fold (l := x0) (fun i (s : Int × Pt) => ((s.1, (i, ())), (s.2, ()))) (fun _ _ => True) (wayF S_far) (fun s => some ((s.1, ()), ((), (), ()))) (fun i h s _ => ?_) (fun s _ rec => ?_) (Nat.lt_succ_self _) (s := (0, x1)) trivial)
  · obtain ⟨s, a, b, ⟨⟩⟩ := s
    exact ⟨trivial, fun rec => by simp only [lt_nat h, inB_nat h, getD_lt h, succ64 h hl, cond_true]; rfl⟩
  · obtain ⟨s, a, b, ⟨⟩⟩ := s
    simp only [lt_self, cond_false]⟩
noncomputable def E_drill_way : Entry Try.prog := Entry.of tok T_drill_way I_drill_way it_drill_way (fun (x0, x1, ()) => some ((S_way S_far x0 x1, ()), ((), (), ()))) (fun (x0, x1, ()) r hok h => by cases h; exact ok_drill_way x0 x1 hok)

end Go.Proofs.Ytmhhodnackfhmaa
namespace Go.Proofs.Ytmhhodnackfhmaa
open Go Go.VM
/-! ### etchhouse.drill.Way -/
noncomputable def I_drill_Way : Inst := ⟨35, Try.f35, .two (.reg []) (.two (.two (.reg [(2, 0)]) (.two (.reg []) (.two (.two (.reg []) (.leaf)) (.leaf)))) (.two (.reg [(2, 1)]) (.leaf))), (.cons (.pv (.sl (.pair i (.pair i .unit)))) (.cons (.pv (.pair i (.pair i .unit))) .nil)), (.cons .flat i (.cons .flat i .nil))⟩
theorem it_drill_Way : InTab Try.prog I_drill_Way := ⟨Try.func35, by kernel_rfl, rfl⟩
noncomputable def T_drill_Way : Nat → Entry Try.prog := nth (Entry.no Try.f0) [E_drill_checkPoints, E_drill_way]
noncomputable def B_drill_Way (x0 : List (Int × (Int × Unit))) (x1 : (Int × (Int × Unit))) : Option (((Int × (Int × Unit)) × (Unit × (Unit × Unit)))) :=
  (bif (!(decide ((S_chk x0 x1 2000 = 0)))) then
    some ((0, (S_chk x0 x1 2000, ())), ((), ((), ())))
  else
    some ((S_way S_far x0 x1, (0, ())), ((), ((), ()))))
theorem B_drill_Way_eq (n : Nat) (x0 : List (Int × (Int × Unit))) (x1 : (Int × (Int × Unit))) : bodyE ty T_drill_Way n I_drill_Way (x0, (x1, ())) = B_drill_Way x0 x1 := by kernel_rfl

end Go.Proofs.Ytmhhodnackfhmaa
namespace Go.Proofs.Ytmhhodnackfhmaa
open Go Go.VM
def S_WayP (x0 : List Pt) (x1 : Pt) : Int × Int := bif decide (S_chk x0 x1 2000 = 0) then (S_way S_far x0 x1, 0) else (0, S_chk x0 x1 2000)
theorem ok_drill_Way (x0 : List Pt) (x1 : Pt) (hok : OkA I_drill_Way.args (x0, x1, ())) : ∃ n, bodyE ty T_drill_Way n I_drill_Way (x0, x1, ()) = some (((S_WayP x0 x1).1, (S_WayP x0 x1).2, ()), ((), (), ())) := ⟨0, by
  rw [B_drill_Way_eq]
  unfold B_drill_Way S_WayP
  cases decide (S_chk x0 x1 2000 = 0) <;> rfl⟩
noncomputable def E_drill_Way : Entry Try.prog := Entry.of tok T_drill_Way I_drill_Way it_drill_Way (fun (x0, x1, ()) => some (((S_WayP x0 x1).1, (S_WayP x0 x1).2, ()), ((), (), ()))) (fun (x0, x1, ()) r hok h => by cases h; exact ok_drill_Way x0 x1 hok)

end Go.Proofs.Ytmhhodnackfhmaa
namespace Go.Proofs.Ytmhhodnackfhmaa
open Go Go.VM
/-! ### etchhouse.etchhouselaw8.awake -/
noncomputable def I_etchhouselaw8_awake : Inst := ⟨11, Try.f11, .two (.reg []) (.two (.reg [(5, 0)]) (.two (.reg []) (.leaf))), .nil, (.cons .flat .bool .nil)⟩
theorem it_etchhouselaw8_awake : InTab Try.prog I_etchhouselaw8_awake := ⟨Try.func11, by kernel_rfl, rfl⟩
noncomputable def T_etchhouselaw8_awake : Nat → Entry Try.prog := nth (Entry.no Try.f0) [E_drill_Way]
noncomputable def B_etchhouselaw8_awake  : Option (((Bool × Unit) × Unit)) :=
  some ((true, ()), ())
theorem B_etchhouselaw8_awake_eq (n : Nat)  : bodyE ty T_etchhouselaw8_awake n I_etchhouselaw8_awake () = B_etchhouselaw8_awake  := by kernel_rfl

end Go.Proofs.Ytmhhodnackfhmaa
namespace Go.Proofs.Ytmhhodnackfhmaa
open Go Go.VM
def S_etchhouselaw8_awake  : Bool := true
theorem ok_etchhouselaw8_awake  (hok : OkA I_etchhouselaw8_awake.args ()) : ∃ n, bodyE ty T_etchhouselaw8_awake n I_etchhouselaw8_awake () = some ((S_etchhouselaw8_awake, ()), ()) := ⟨0, by rw [B_etchhouselaw8_awake_eq]; rfl⟩
noncomputable def E_etchhouselaw8_awake : Entry Try.prog := Entry.of tok T_etchhouselaw8_awake I_etchhouselaw8_awake it_etchhouselaw8_awake (fun () => some ((S_etchhouselaw8_awake, ()), ())) (fun () r hok h => by cases h; exact ok_etchhouselaw8_awake  hok)

end Go.Proofs.Ytmhhodnackfhmaa
namespace Go.Proofs.Ytmhhodnackfhmaa
open Go Go.VM
/-! ### etchhouse.etchhouselaw8.DrillChosenMatchesSpec -/
noncomputable def I_etchhouselaw8_DrillChosenMatchesSpec : Inst := ⟨4, Try.f4, .two (.reg []) (.two (.reg [(3, 0)]) (.two (.reg [(3, 1)]) (.two (.reg [(6, 2), (11, 3), (14, 4)]) (.leaf)))), (.cons (.pv (.sl (.pair .str (.pair i (.pair i (.pair i .unit)))))) (.cons (.pv (.sl (.pair (.pair i (.pair i .unit)) (.pair i (.pair i (.pair .bool .unit)))))) (.cons (.pv i) .nil))), (.cons .flat .bool .nil)⟩
theorem it_etchhouselaw8_DrillChosenMatchesSpec : InTab Try.prog I_etchhouselaw8_DrillChosenMatchesSpec := ⟨Try.func4, by kernel_rfl, rfl⟩
noncomputable def T_etchhouselaw8_DrillChosenMatchesSpec : Nat → Entry Try.prog := nth (Entry.no Try.f0) [E_drill_Chosen, E_etchhouseref8_Chosen, E_etchhouseref8_SameJobs, E_slices_Equal_int_int, E_etchhouselaw8_awake]
noncomputable def B_etchhouselaw8_DrillChosenMatchesSpec (x0 : List (ByteArray × (Int × (Int × (Int × Unit))))) (x1 : List ((Int × (Int × Unit)) × (Int × (Int × (Bool × Unit))))) (x2 : Int) : Option (((Bool × Unit) × (Unit × (Unit × (Unit × Unit))))) :=
  (bif decide ((S_ChoF (S_chkH x1) x0 x2 = S_ChoF (S_chkHR x1) x0 x2)) then
    (bif S_sameJ (S_ChoJ (S_chkH x1) (fun a => S_toolP x0 a x2) x0 x1 x2) (S_ChoJ (S_chkHR x1) (fun a => S_toolR x0 a x2) x0 x1 x2) then
      (bif decide ((S_ChoN (S_chkH x1) (fun a => S_toolP x0 a x2) x0 x1 x2 = S_ChoN (S_chkHR x1) (fun a => S_toolR x0 a x2) x0 x1 x2)) then
        some ((S_etchhouselaw8_awake, ()), ((), ((), ((), ()))))
      else
        some ((false, ()), ((), ((), ((), ())))))
    else
      some ((false, ()), ((), ((), ((), ())))))
  else
    some ((false, ()), ((), ((), ((), ())))))
theorem B_etchhouselaw8_DrillChosenMatchesSpec_eq (n : Nat) (x0 : List (ByteArray × (Int × (Int × (Int × Unit))))) (x1 : List ((Int × (Int × Unit)) × (Int × (Int × (Bool × Unit))))) (x2 : Int) : bodyE ty T_etchhouselaw8_DrillChosenMatchesSpec n I_etchhouselaw8_DrillChosenMatchesSpec (x0, (x1, (x2, ()))) = B_etchhouselaw8_DrillChosenMatchesSpec x0 x1 x2 := by kernel_rfl

end Go.Proofs.Ytmhhodnackfhmaa
namespace Go.Proofs.Ytmhhodnackfhmaa
open Go Go.VM
noncomputable def E_etchhouselaw8_DrillChosenMatchesSpec : Entry Try.prog := Entry.of tok T_etchhouselaw8_DrillChosenMatchesSpec I_etchhouselaw8_DrillChosenMatchesSpec it_etchhouselaw8_DrillChosenMatchesSpec (fun x => B_etchhouselaw8_DrillChosenMatchesSpec x.1 x.2.1 x.2.2.1) (fun (a0, a1, a2, ()) r _ h => ⟨0, (B_etchhouselaw8_DrillChosenMatchesSpec_eq 0 a0 a1 a2).trans h⟩)

end Go.Proofs.Ytmhhodnackfhmaa
namespace Go.Proofs.Ytmhhodnackfhmaa
open Go Go.VM
namespace LDrillChosenMatchesSpec
theorem chk_same : S_chkHR = S_chkH := rfl
theorem off_same {a : Mat} {size : Int} (ha : 0 ≤ a.2.1 ∧ a.2.1 ≤ 10000) (hs : 0 ≤ size ∧ size ≤ 10000) : S_off a size = S_offR a size := by
  unfold S_off S_offR S_abs
  rw [wrap64 (n := a.2.1 - size) (by omega) (by omega), wrap64 (n := size - a.2.1) (by omega) (by omega), wrap64 (n := 0 - (a.2.1 - size)) (by omega) (by omega)]
  rw [show 0 - (a.2.1 - size) = size - a.2.1 by omega]
theorem tool_same {t : List Mat} (h : S_chkT t = 0) {size near : Int} (hs : 0 ≤ size ∧ size ≤ 10000) : S_toolP t size near = S_toolR t size near := by
  unfold S_toolP S_toolR
  refine tf_congr (fun a ha => off_same ?_ hs) (off_same ⟨Int.le_refl _, by decide⟩ hs)
  obtain ⟨k, hk, rfl⟩ := List.mem_iff_getElem.1 ha
  have := ((chkT_at h).2 k _ (List.getElem?_eq_getElem hk)).2.1
  omega
theorem chk_sizes {l : List Hole} (h : S_chkH l = 0) : ∀ x ∈ l, 0 ≤ x.2.1 ∧ x.2.1 ≤ 10000 := by
  intro x hx
  unfold S_chkH at h
  cases hd : decide ((2000 : Int) < (l.length : Int)) with
  | true => rw [hd] at h; cases h
  | false =>
    rw [hd, cond_false] at h
    cases ha : l.all S_hole with
    | false => rw [ha] at h; cases h
    | true =>
      have := List.all_eq_true.1 ha x hx
      simp only [S_hole, S_within, Bool.and_eq_true, decide_eq_true_eq] at this
      omega
theorem cho_same (t : List Mat) (l : List Hole) (near : Int) : S_ChoJ (S_chkHR l) (fun a => S_toolR t a near) t l near = S_ChoJ (S_chkH l) (fun a => S_toolP t a near) t l near ∧ S_ChoN (S_chkHR l) (fun a => S_toolR t a near) t l near = S_ChoN (S_chkH l) (fun a => S_toolP t a near) t l near := by
  rw [chk_same]
  unfold S_ChoJ S_ChoN
  cases hk : choOk (S_chkH l) t near with
  | false => exact ⟨rfl, rfl⟩
  | true =>
    simp only [choOk, Bool.and_eq_true, decide_eq_true_eq] at hk
    have hs := chk_sizes hk.2.1
    have := cho_congr (f := fun a => S_toolR t a near) (f' := fun a => S_toolP t a near) (l := l) (fun x hx => (tool_same hk.1 (hs x hx)).symm) t
    rw [this]
    exact ⟨rfl, rfl⟩
theorem law (x0 : List Mat) (x1 : List Hole) (x2 : Int) : B_etchhouselaw8_DrillChosenMatchesSpec x0 x1 x2 = some ((true, ()), ((), ((), ((), ())))) := by
  have ha : S_etchhouselaw8_awake = true := by decide
  obtain ⟨e1, e2⟩ := cho_same x0 x1 x2
  unfold B_etchhouselaw8_DrillChosenMatchesSpec
  rw [e1, e2, chk_same, sameJ_refl, ha]
  simp only [decide_true, cond_true]

end LDrillChosenMatchesSpec
end Go.Proofs.Ytmhhodnackfhmaa
