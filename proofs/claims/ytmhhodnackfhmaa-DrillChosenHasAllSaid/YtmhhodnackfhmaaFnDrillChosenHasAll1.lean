/- What the functions that DrillChosenHasAll reaches compute, part 1; and that the law answers true, for all arguments that a row reads. -/
import Derived.Test.YtmhhodnackfhmaaProg
import Derived.Test.YtmhhodnackfhmaaVmDrillChosenHasAll4
namespace Go.Proofs.Ytmhhodnackfhmaa
open Go Go.VM
abbrev i : Ty := .int .i64
def tab : List (Nat × Ty) := [(22, (.sl (.pair .str (.pair i (.pair i (.pair i .unit)))))), (33, (.pair .str (.pair i (.pair i (.pair i .unit))))), (9, .str), (3, i), (23, (.sl (.pair .str (.pair (.sl (.pair (.pair i (.pair i .unit)) (.pair i (.pair i (.pair .bool .unit))))) .unit)))), (31, (.pair .str (.pair (.sl (.pair (.pair i (.pair i .unit)) (.pair i (.pair i (.pair .bool .unit))))) .unit))), (29, (.sl (.pair (.pair i (.pair i .unit)) (.pair i (.pair i (.pair .bool .unit)))))), (58, (.pair (.pair i (.pair i .unit)) (.pair i (.pair i (.pair .bool .unit))))), (49, (.pair i (.pair i .unit))), (4, .bool), (24, (.sl (.pair .str (.pair i (.pair i .unit))))), (35, (.pair .str (.pair i (.pair i .unit)))), (25, i), (5, (.int .u8)), (100, (.int .u64)), (66, (.sl (.pair i (.pair i .unit)))), (37, (.sl i)), (68, (.sl (.sl (.pair (.pair i (.pair i .unit)) (.pair i (.pair i (.pair .bool .unit)))))))]
def ty : Types := mkTypes tab [58, 35]
theorem tok : TyOK Try.prog ty := tyok_of_check (by kernel_rfl)
end Go.Proofs.Ytmhhodnackfhmaa
namespace Go.Proofs.Ytmhhodnackfhmaa
open Go Go.VM
noncomputable def I_bytealg_IndexByteString : Inst := ⟨95, Try.f95, .leaf, pvs [.str, .int .u8], .cons .flat (.int .i64) .nil⟩
noncomputable def E_bytealg_IndexByteString : Entry Try.prog := Entry.ext I_bytealg_IndexByteString idxF (ext_idx Try.func95 (by kernel_rfl) rfl (by kernel_rfl) (by kernel_rfl))

end Go.Proofs.Ytmhhodnackfhmaa
namespace Go.Proofs.Ytmhhodnackfhmaa
open Go Go.VM
/-! ### internal.stringslite.IndexByte -/
noncomputable def I_stringslite_IndexByte : Inst := ⟨87, Try.f87, .two (.reg []) (.two (.reg [(2, 0)]) (.leaf)), (.cons (.pv .str) (.cons (.pv (.int .u8)) .nil)), (.cons .flat i .nil)⟩
theorem it_stringslite_IndexByte : InTab Try.prog I_stringslite_IndexByte := ⟨Try.func87, by kernel_rfl, rfl⟩
noncomputable def T_stringslite_IndexByte : Nat → Entry Try.prog := nth (Entry.no Try.f0) [E_bytealg_IndexByteString]
noncomputable def B_stringslite_IndexByte (x0 : ByteArray) (x1 : Int) : Option (((Int × Unit) × (Unit × (Unit × Unit)))) :=
  some ((S_idx x0 x1, ()), ((), ((), ())))
theorem B_stringslite_IndexByte_eq (n : Nat) (x0 : ByteArray) (x1 : Int) : bodyE ty T_stringslite_IndexByte n I_stringslite_IndexByte (x0, (x1, ())) = B_stringslite_IndexByte x0 x1 := by kernel_rfl

end Go.Proofs.Ytmhhodnackfhmaa
namespace Go.Proofs.Ytmhhodnackfhmaa
open Go Go.VM
def S_stringslite_IndexByte (x0 : ByteArray) (x1 : Int) : Int := S_idx x0 x1
theorem ok_stringslite_IndexByte (x0 : ByteArray) (x1 : Int) (hok : OkA I_stringslite_IndexByte.args (x0, x1, ())) : ∃ n, bodyE ty T_stringslite_IndexByte n I_stringslite_IndexByte (x0, x1, ()) = some (((S_stringslite_IndexByte x0 x1), ()), ((), (), ())) := ⟨0, by rw [B_stringslite_IndexByte_eq]; rfl⟩
noncomputable def E_stringslite_IndexByte : Entry Try.prog := Entry.of tok T_stringslite_IndexByte I_stringslite_IndexByte it_stringslite_IndexByte (fun (x0, x1, ()) => some (((S_stringslite_IndexByte x0 x1), ()), ((), (), ()))) (fun (x0, x1, ()) r hok h => by cases h; exact ok_stringslite_IndexByte x0 x1 hok)

end Go.Proofs.Ytmhhodnackfhmaa
namespace Go.Proofs.Ytmhhodnackfhmaa
open Go Go.VM
/-! ### strings.IndexByte -/
noncomputable def I_strings_IndexByte : Inst := ⟨69, Try.f69, .two (.reg []) (.two (.reg [(2, 0)]) (.leaf)), (.cons (.pv .str) (.cons (.pv (.int .u8)) .nil)), (.cons .flat i .nil)⟩
theorem it_strings_IndexByte : InTab Try.prog I_strings_IndexByte := ⟨Try.func69, by kernel_rfl, rfl⟩
noncomputable def T_strings_IndexByte : Nat → Entry Try.prog := nth (Entry.no Try.f0) [E_stringslite_IndexByte]
noncomputable def B_strings_IndexByte (x0 : ByteArray) (x1 : Int) : Option (((Int × Unit) × (Unit × (Unit × Unit)))) :=
  some ((S_stringslite_IndexByte x0 x1, ()), ((), ((), ())))
theorem B_strings_IndexByte_eq (n : Nat) (x0 : ByteArray) (x1 : Int) : bodyE ty T_strings_IndexByte n I_strings_IndexByte (x0, (x1, ())) = B_strings_IndexByte x0 x1 := by kernel_rfl

end Go.Proofs.Ytmhhodnackfhmaa
namespace Go.Proofs.Ytmhhodnackfhmaa
open Go Go.VM
def S_strings_IndexByte (x0 : ByteArray) (x1 : Int) : Int := S_stringslite_IndexByte x0 x1
theorem ok_strings_IndexByte (x0 : ByteArray) (x1 : Int) (hok : OkA I_strings_IndexByte.args (x0, x1, ())) : ∃ n, bodyE ty T_strings_IndexByte n I_strings_IndexByte (x0, x1, ()) = some (((S_strings_IndexByte x0 x1), ()), ((), (), ())) := ⟨0, by rw [B_strings_IndexByte_eq]; rfl⟩
noncomputable def E_strings_IndexByte : Entry Try.prog := Entry.of tok T_strings_IndexByte I_strings_IndexByte it_strings_IndexByte (fun (x0, x1, ()) => some (((S_strings_IndexByte x0 x1), ()), ((), (), ()))) (fun (x0, x1, ()) r hok h => by cases h; exact ok_strings_IndexByte x0 x1 hok)

end Go.Proofs.Ytmhhodnackfhmaa
namespace Go.Proofs.Ytmhhodnackfhmaa
open Go Go.VM
/-! ### etchhouse.netlist.IsWord -/
noncomputable def I_netlist_IsWord : Inst := ⟨54, Try.f54, .two (.reg []) (.two (.two (.reg []) (.one (.loop ⟨[(7, .pv i)], [], [0, 6], []⟩ (.two (.reg []) (.two (.two (.leaf) (.leaf)) (.two (.one (.two (.reg []) (.two (.reg []) (.two (.reg [(24, 0)]) (.two (.two (.reg []) (.leaf)) (.leaf)))))) (.reg []))))))) (.two (.reg []) (.leaf))), (.cons (.pv .str) .nil), (.cons .flat .bool .nil)⟩
theorem it_netlist_IsWord : InTab Try.prog I_netlist_IsWord := ⟨Try.func54, by kernel_rfl, rfl⟩
noncomputable def T_netlist_IsWord : Nat → Entry Try.prog := nth (Entry.no Try.f0) [E_strings_IndexByte]
noncomputable def B_netlist_IsWord (n : Nat) (x0 : ByteArray) : Option (((Bool × Unit) × (Unit × Unit))) :=
  loopN (fun rec1 => fun
  | ((v1aa, ()), ()) =>
    (bif decide ((v1aa < ((ByteArray.size x0 : Nat) : Int))) then
      (bif inB v1aa (ByteArray.size x0) then
        (bif decide ((strAt x0 v1aa.toNat < 65)) then
          (bif decide ((strAt x0 v1aa.toNat < 97)) then
            (bif decide ((strAt x0 v1aa.toNat < 48)) then
              (bif decide ((S_strings_IndexByte (strOf [95, 43, 45, 35]) (strAt x0 v1aa.toNat) < 0)) then
                some ((false, ()), ((), ()))
              else
                rec1 ((wrapI .i64 (v1aa + 1), ()), ()))
            else
              (bif decide ((57 < strAt x0 v1aa.toNat)) then
                (bif decide ((S_strings_IndexByte (strOf [95, 43, 45, 35]) (strAt x0 v1aa.toNat) < 0)) then
                  some ((false, ()), ((), ()))
                else
                  rec1 ((wrapI .i64 (v1aa + 1), ()), ()))
              else
                rec1 ((wrapI .i64 (v1aa + 1), ()), ())))
          else
            (bif decide ((122 < strAt x0 v1aa.toNat)) then
              (bif decide ((strAt x0 v1aa.toNat < 48)) then
                (bif decide ((S_strings_IndexByte (strOf [95, 43, 45, 35]) (strAt x0 v1aa.toNat) < 0)) then
                  some ((false, ()), ((), ()))
                else
                  rec1 ((wrapI .i64 (v1aa + 1), ()), ()))
              else
                (bif decide ((57 < strAt x0 v1aa.toNat)) then
                  (bif decide ((S_strings_IndexByte (strOf [95, 43, 45, 35]) (strAt x0 v1aa.toNat) < 0)) then
                    some ((false, ()), ((), ()))
                  else
                    rec1 ((wrapI .i64 (v1aa + 1), ()), ()))
                else
                  rec1 ((wrapI .i64 (v1aa + 1), ()), ())))
            else
              rec1 ((wrapI .i64 (v1aa + 1), ()), ())))
        else
          (bif decide ((90 < strAt x0 v1aa.toNat)) then
            (bif decide ((strAt x0 v1aa.toNat < 97)) then
              (bif decide ((strAt x0 v1aa.toNat < 48)) then
                (bif decide ((S_strings_IndexByte (strOf [95, 43, 45, 35]) (strAt x0 v1aa.toNat) < 0)) then
                  some ((false, ()), ((), ()))
                else
                  rec1 ((wrapI .i64 (v1aa + 1), ()), ()))
              else
                (bif decide ((57 < strAt x0 v1aa.toNat)) then
                  (bif decide ((S_strings_IndexByte (strOf [95, 43, 45, 35]) (strAt x0 v1aa.toNat) < 0)) then
                    some ((false, ()), ((), ()))
                  else
                    rec1 ((wrapI .i64 (v1aa + 1), ()), ()))
                else
                  rec1 ((wrapI .i64 (v1aa + 1), ()), ())))
            else
              (bif decide ((122 < strAt x0 v1aa.toNat)) then
                (bif decide ((strAt x0 v1aa.toNat < 48)) then
                  (bif decide ((S_strings_IndexByte (strOf [95, 43, 45, 35]) (strAt x0 v1aa.toNat) < 0)) then
                    some ((false, ()), ((), ()))
                  else
                    rec1 ((wrapI .i64 (v1aa + 1), ()), ()))
                else
                  (bif decide ((57 < strAt x0 v1aa.toNat)) then
                    (bif decide ((S_strings_IndexByte (strOf [95, 43, 45, 35]) (strAt x0 v1aa.toNat) < 0)) then
                      some ((false, ()), ((), ()))
                    else
                      rec1 ((wrapI .i64 (v1aa + 1), ()), ()))
                  else
                    rec1 ((wrapI .i64 (v1aa + 1), ()), ())))
              else
                rec1 ((wrapI .i64 (v1aa + 1), ()), ())))
          else
            rec1 ((wrapI .i64 (v1aa + 1), ()), ())))
      else
        none)
    else
      (bif decide ((1 ≤ ((ByteArray.size x0 : Nat) : Int))) then
        some ((decide ((((ByteArray.size x0 : Nat) : Int) ≤ 40)), ()), ((), ()))
      else
        some ((false, ()), ((), ())))))
  n ((0, ()), ())
theorem B_netlist_IsWord_eq (n : Nat) (x0 : ByteArray) : bodyE ty T_netlist_IsWord n I_netlist_IsWord (x0, ()) = B_netlist_IsWord n x0 := by kernel_rfl

end Go.Proofs.Ytmhhodnackfhmaa
namespace Go.Proofs.Ytmhhodnackfhmaa
open Go Go.VM
theorem ok_netlist_IsWord (x0 : ByteArray) (hok : OkA I_netlist_IsWord.args (x0, ())) : ∃ n, bodyE ty T_netlist_IsWord n I_netlist_IsWord (x0, ()) = some ((S_word x0, ()), ((), ())) := ⟨ByteArray.size x0 + 1, by
  have hl : ByteArray.size x0 ≤ maxLen := hok.1
  rw [B_netlist_IsWord_eq]
  unfold B_netlist_IsWord S_word
  refine (loop_list (l := x0.data.toList) (fun i (_ : Unit) => ((i, ()), ())) (fun a i _ => bif okB (a.toNat : Int) then .inl () else .inr (some ((false, ()), ((), ())))) (fun _ => some ((decide (1 ≤ ((ByteArray.size x0 : Nat) : Int)) && decide (((ByteArray.size x0 : Nat) : Int) ≤ 40), ()), ((), ()))) (fun i h s rec => ?_) (fun s rec => ?_) (Nat.lt_succ_self _) ()).trans ?_
  · have h' : i < ByteArray.size x0 := h
    simp only [lt_nat h', inB_nat h', strAt_nat h, succ64 h' hl, cond_true]
    generalize (x0.data.toList[i].toNat : Int) = c
    unfold okB
    simp only [show ∀ a b, S_strings_IndexByte a b = S_idx a b from fun _ _ => rfl]
    cases decide (c < 65) <;> cases decide (90 < c) <;> cases decide (c < 97) <;> cases decide (122 < c) <;> cases decide (c < 48) <;> cases decide (57 < c) <;> cases decide (S_idx (strOf [95, 43, 45, 35]) c < 0) <;> rfl
  · rw [← size_list]
    simp only [lt_self, cond_false]
    cases decide (1 ≤ ((ByteArray.size x0 : Nat) : Int)) <;> rfl
  · rw [all_go]
    cases x0.data.toList.all fun b => okB (b.toNat : Int) <;> rfl⟩
noncomputable def E_netlist_IsWord : Entry Try.prog := Entry.of tok T_netlist_IsWord I_netlist_IsWord it_netlist_IsWord (fun (x0, ()) => some ((S_word x0, ()), ((), ()))) (fun (x0, ()) r hok h => by cases h; exact ok_netlist_IsWord x0 hok)

end Go.Proofs.Ytmhhodnackfhmaa
namespace Go.Proofs.Ytmhhodnackfhmaa
open Go Go.VM
/-! ### etchhouse.drill.within -/
noncomputable def I_drill_within : Inst := ⟨36, Try.f36, .two (.reg []) (.two (.reg []) (.leaf)), (.cons (.pv i) (.cons (.pv i) (.cons (.pv i) .nil))), (.cons .flat .bool .nil)⟩
theorem it_drill_within : InTab Try.prog I_drill_within := ⟨Try.func36, by kernel_rfl, rfl⟩
noncomputable def T_drill_within : Nat → Entry Try.prog := nth (Entry.no Try.f0) []
noncomputable def B_drill_within (x0 : Int) (x1 : Int) (x2 : Int) : Option (((Bool × Unit) × (Unit × (Unit × (Unit × Unit))))) :=
  (bif decide ((x1 ≤ x0)) then
    some ((decide ((x0 ≤ x2)), ()), ((), ((), ((), ()))))
  else
    some ((false, ()), ((), ((), ((), ())))))
theorem B_drill_within_eq (n : Nat) (x0 : Int) (x1 : Int) (x2 : Int) : bodyE ty T_drill_within n I_drill_within (x0, (x1, (x2, ()))) = B_drill_within x0 x1 x2 := by kernel_rfl

end Go.Proofs.Ytmhhodnackfhmaa
namespace Go.Proofs.Ytmhhodnackfhmaa
open Go Go.VM
theorem ok_drill_within (x0 x1 x2 : Int) (hok : OkA I_drill_within.args (x0, x1, x2, ())) : ∃ n, bodyE ty T_drill_within n I_drill_within (x0, x1, x2, ()) = some ((S_within x0 x1 x2, ()), ((), (), (), ())) := ⟨0, by
  rw [B_drill_within_eq]; unfold B_drill_within S_within; cases decide (x1 ≤ x0) <;> rfl⟩
noncomputable def E_drill_within : Entry Try.prog := Entry.of tok T_drill_within I_drill_within it_drill_within (fun (x0, x1, x2, ()) => some ((S_within x0 x1 x2, ()), ((), (), (), ()))) (fun (x0, x1, x2, ()) r hok h => by cases h; exact ok_drill_within x0 x1 x2 hok)

end Go.Proofs.Ytmhhodnackfhmaa
namespace Go.Proofs.Ytmhhodnackfhmaa
open Go Go.VM
/-! ### etchhouse.drill.CheckTools -/
noncomputable def I_drill_CheckTools : Inst := ⟨32, Try.f32, .two (.reg []) (.two (.two (.reg []) (.two (.two (.reg []) (.leaf)) (.leaf))) (.two (.two (.reg []) (.one (.loop ⟨[(10, .pv i)], [], [0, 8, 9], []⟩ (.two (.reg []) (.two (.two (.leaf) (.leaf)) (.two (.one (.two (.reg []) (.one (.two (.reg [(2, 0)]) (.two (.two (.reg []) (.leaf)) (.two (.reg [(2, 1), (7, 1), (13, 1)]) (.two (.two (.reg []) (.leaf)) (.two (.draw [] [0, 1, 2, 3, 4, 5, 6, 7, 8, 9, 10, 11, 12, 13] [4]) (.two (.two (.reg []) (.leaf)) (.leaf)))))))))) (.reg []))))))) (.two (.reg []) (.leaf)))), (.cons (.pv (.sl (.pair .str (.pair i (.pair i (.pair i .unit)))))) .nil), (.cons .flat i .nil)⟩
theorem it_drill_CheckTools : InTab Try.prog I_drill_CheckTools := ⟨Try.func32, by kernel_rfl, rfl⟩
noncomputable def T_drill_CheckTools : Nat → Entry Try.prog := nth (Entry.no Try.f0) [E_netlist_IsWord, E_drill_within]
noncomputable def B_drill_CheckTools (n : Nat) (x0 : List (ByteArray × (Int × (Int × (Int × Unit))))) : Option (((Int × Unit) × (Unit × Unit))) :=
  (bif decide ((100 < ((x0.length : Nat) : Int))) then
    some ((2, ()), ((), ()))
  else
    loopN (fun rec1 => fun
    | ((v1aa, ()), ()) =>
      (bif decide ((v1aa < ((x0.length : Nat) : Int))) then
        (bif inB v1aa x0.length then
          (bif (!(S_word ((x0.getD v1aa.toNat ((strOf []), (0, (0, (0, ()))))).1))) then
            some ((5, ()), ((), ()))
          else
            (bif (!(S_within (((x0.getD v1aa.toNat ((strOf []), (0, (0, (0, ()))))).2).1) 1 10000)) then
              some ((1, ()), ((), ()))
            else
              (bif (!(S_within ((((x0.getD v1aa.toNat ((strOf []), (0, (0, (0, ()))))).2).2).1) 1 2000)) then
                some ((1, ()), ((), ()))
              else
                (bif (!(S_within (((((x0.getD v1aa.toNat ((strOf []), (0, (0, (0, ()))))).2).2).2).1) 0 1000)) then
                  some ((1, ()), ((), ()))
                else
                  (bif decide ((0 < v1aa)) then
                    (bif inB (wrapI .i64 (v1aa - 1)) x0.length then
                      (bif (Op.bytesLess (ByteArray.toList ((x0.getD v1aa.toNat ((strOf []), (0, (0, (0, ()))))).1)) (ByteArray.toList ((x0.getD ((wrapI .i64 (v1aa - 1)).toNat) ((strOf []), (0, (0, (0, ()))))).1)) || decide ((ByteArray.toList ((x0.getD v1aa.toNat ((strOf []), (0, (0, (0, ()))))).1) = ByteArray.toList ((x0.getD ((wrapI .i64 (v1aa - 1)).toNat) ((strOf []), (0, (0, (0, ()))))).1)))) then
                        some ((8, ()), ((), ()))
                      else
                        rec1 ((wrapI .i64 (v1aa + 1), ()), ()))
                    else
                      none)
                  else
                    rec1 ((wrapI .i64 (v1aa + 1), ()), ()))))))
        else
          none)
      else
        some ((0, ()), ((), ()))))
    n ((0, ()), ()))
theorem B_drill_CheckTools_eq (n : Nat) (x0 : List (ByteArray × (Int × (Int × (Int × Unit))))) : bodyE ty T_drill_CheckTools n I_drill_CheckTools (x0, ()) = B_drill_CheckTools n x0 := by kernel_rfl

end Go.Proofs.Ytmhhodnackfhmaa
namespace Go.Proofs.Ytmhhodnackfhmaa
open Go Go.VM
theorem ok_drill_CheckTools (x0 : List Mat) (hok : OkA I_drill_CheckTools.args (x0, ())) : ∃ n, bodyE ty T_drill_CheckTools n I_drill_CheckTools (x0, ()) = some ((S_chkT x0, ()), ((), ())) := ⟨x0.length + 1, by
  have hl : x0.length ≤ maxLen := hok.1.1
  rw [B_drill_CheckTools_eq]
  unfold B_drill_CheckTools
  exact chkT_loop (R := fun a => some ((a, ()), ((), ()))) hl (Nat.lt_succ_self _)⟩
noncomputable def E_drill_CheckTools : Entry Try.prog := Entry.of tok T_drill_CheckTools I_drill_CheckTools it_drill_CheckTools (fun (x0, ()) => some ((S_chkT x0, ()), ((), ()))) (fun (x0, ()) r hok h => by cases h; exact ok_drill_CheckTools x0 hok)

end Go.Proofs.Ytmhhodnackfhmaa
namespace Go.Proofs.Ytmhhodnackfhmaa
open Go Go.VM
/-! ### etchhouse.shape.within -/
noncomputable def I_shape_within : Inst := ⟨73, Try.f73, .two (.reg []) (.two (.reg []) (.leaf)), (.cons (.pv i) (.cons (.pv i) (.cons (.pv i) .nil))), (.cons .flat .bool .nil)⟩
theorem it_shape_within : InTab Try.prog I_shape_within := ⟨Try.func73, by kernel_rfl, rfl⟩
noncomputable def T_shape_within : Nat → Entry Try.prog := nth (Entry.no Try.f0) []
noncomputable def B_shape_within (x0 : Int) (x1 : Int) (x2 : Int) : Option (((Bool × Unit) × (Unit × (Unit × (Unit × Unit))))) :=
  (bif decide ((x1 ≤ x0)) then
    some ((decide ((x0 ≤ x2)), ()), ((), ((), ((), ()))))
  else
    some ((false, ()), ((), ((), ((), ())))))
theorem B_shape_within_eq (n : Nat) (x0 : Int) (x1 : Int) (x2 : Int) : bodyE ty T_shape_within n I_shape_within (x0, (x1, (x2, ()))) = B_shape_within x0 x1 x2 := by kernel_rfl

end Go.Proofs.Ytmhhodnackfhmaa
namespace Go.Proofs.Ytmhhodnackfhmaa
open Go Go.VM
theorem ok_shape_within (x0 x1 x2 : Int) (hok : OkA I_shape_within.args (x0, x1, x2, ())) : ∃ n, bodyE ty T_shape_within n I_shape_within (x0, x1, x2, ()) = some ((S_within x0 x1 x2, ()), ((), (), (), ())) := ⟨0, by
  rw [B_shape_within_eq]; unfold B_shape_within S_within; cases decide (x1 ≤ x0) <;> rfl⟩
noncomputable def E_shape_within : Entry Try.prog := Entry.of tok T_shape_within I_shape_within it_shape_within (fun (x0, x1, x2, ()) => some ((S_within x0 x1 x2, ()), ((), (), (), ()))) (fun (x0, x1, x2, ()) r hok h => by cases h; exact ok_shape_within x0 x1 x2 hok)

end Go.Proofs.Ytmhhodnackfhmaa
namespace Go.Proofs.Ytmhhodnackfhmaa
open Go Go.VM
/-! ### etchhouse.shape.IsAt -/
noncomputable def I_shape_IsAt : Inst := ⟨61, Try.f61, .two (.reg []) (.two (.reg [(1, 0)]) (.leaf)), (.cons (.pv i) .nil), (.cons .flat .bool .nil)⟩
theorem it_shape_IsAt : InTab Try.prog I_shape_IsAt := ⟨Try.func61, by kernel_rfl, rfl⟩
noncomputable def T_shape_IsAt : Nat → Entry Try.prog := nth (Entry.no Try.f0) [E_shape_within]
noncomputable def B_shape_IsAt (x0 : Int) : Option (((Bool × Unit) × (Unit × Unit))) :=
  some ((S_within x0 (-1000000) 1000000, ()), ((), ()))
theorem B_shape_IsAt_eq (n : Nat) (x0 : Int) : bodyE ty T_shape_IsAt n I_shape_IsAt (x0, ()) = B_shape_IsAt x0 := by kernel_rfl

end Go.Proofs.Ytmhhodnackfhmaa
namespace Go.Proofs.Ytmhhodnackfhmaa
open Go Go.VM
theorem ok_shape_IsAt (x0 : Int) (hok : OkA I_shape_IsAt.args (x0, ())) : ∃ n, bodyE ty T_shape_IsAt n I_shape_IsAt (x0, ()) = some ((S_within x0 (-1000000) 1000000, ()), ((), ())) := ⟨0, by rw [B_shape_IsAt_eq]; rfl⟩
noncomputable def E_shape_IsAt : Entry Try.prog := Entry.of tok T_shape_IsAt I_shape_IsAt it_shape_IsAt (fun (x0, ()) => some ((S_within x0 (-1000000) 1000000, ()), ((), ()))) (fun (x0, ()) r hok h => by cases h; exact ok_shape_IsAt x0 hok)

end Go.Proofs.Ytmhhodnackfhmaa
namespace Go.Proofs.Ytmhhodnackfhmaa
open Go Go.VM
/-! ### etchhouse.shape.IsPoint -/
noncomputable def I_shape_IsPoint : Inst := ⟨42, Try.f42, .two (.reg []) (.two (.reg [(2, 0), (6, 0)]) (.leaf)), (.cons (.pv (.pair i (.pair i .unit))) .nil), (.cons .flat .bool .nil)⟩
theorem it_shape_IsPoint : InTab Try.prog I_shape_IsPoint := ⟨Try.func42, by kernel_rfl, rfl⟩
noncomputable def T_shape_IsPoint : Nat → Entry Try.prog := nth (Entry.no Try.f0) [E_shape_IsAt]
noncomputable def B_shape_IsPoint (x0 : (Int × (Int × Unit))) : Option (((Bool × Unit) × (Unit × Unit))) :=
  (bif S_within x0.1 (-1000000) 1000000 then
    some ((S_within x0.2.1 (-1000000) 1000000, ()), ((), ()))
  else
    some ((false, ()), ((), ())))
theorem B_shape_IsPoint_eq (n : Nat) (x0 : (Int × (Int × Unit))) : bodyE ty T_shape_IsPoint n I_shape_IsPoint (x0, ()) = B_shape_IsPoint x0 := by kernel_rfl

end Go.Proofs.Ytmhhodnackfhmaa
namespace Go.Proofs.Ytmhhodnackfhmaa
open Go Go.VM
def S_isPt (p : Int × Int × Unit) : Bool := S_within p.1 (-1000000) 1000000 && S_within p.2.1 (-1000000) 1000000
theorem ok_shape_IsPoint (x0 : Int × Int × Unit) (hok : OkA I_shape_IsPoint.args (x0, ())) : ∃ n, bodyE ty T_shape_IsPoint n I_shape_IsPoint (x0, ()) = some ((S_isPt x0, ()), ((), ())) := ⟨0, by
  rw [B_shape_IsPoint_eq]; unfold B_shape_IsPoint S_isPt; cases S_within x0.1 (-1000000) 1000000 <;> rfl⟩
noncomputable def E_shape_IsPoint : Entry Try.prog := Entry.of tok T_shape_IsPoint I_shape_IsPoint it_shape_IsPoint (fun (x0, ()) => some ((S_isPt x0, ()), ((), ()))) (fun (x0, ()) r hok h => by cases h; exact ok_shape_IsPoint x0 hok)

end Go.Proofs.Ytmhhodnackfhmaa
namespace Go.Proofs.Ytmhhodnackfhmaa
open Go Go.VM
/-! ### etchhouse.drill.CheckHoles -/
noncomputable def I_drill_CheckHoles : Inst := ⟨30, Try.f30, .two (.reg []) (.two (.two (.reg []) (.two (.two (.reg []) (.leaf)) (.leaf))) (.two (.two (.reg []) (.one (.loop ⟨[(10, .pv i)], [], [8, 9], []⟩ (.two (.reg []) (.two (.two (.leaf) (.leaf)) (.two (.one (.two (.reg []) (.two (.reg [(2, 0), (7, 1), (13, 1)]) (.two (.two (.reg []) (.leaf)) (.leaf))))) (.reg []))))))) (.two (.reg []) (.leaf)))), (.cons (.pv (.sl (.pair (.pair i (.pair i .unit)) (.pair i (.pair i (.pair .bool .unit)))))) .nil), (.cons .flat i .nil)⟩
theorem it_drill_CheckHoles : InTab Try.prog I_drill_CheckHoles := ⟨Try.func30, by kernel_rfl, rfl⟩
noncomputable def T_drill_CheckHoles : Nat → Entry Try.prog := nth (Entry.no Try.f0) [E_shape_IsPoint, E_drill_within]
noncomputable def B_drill_CheckHoles (n : Nat) (x0 : List ((Int × (Int × Unit)) × (Int × (Int × (Bool × Unit))))) : Option (((Int × Unit) × (Unit × Unit))) :=
  (bif decide ((2000 < ((x0.length : Nat) : Int))) then
    some ((2, ()), ((), ()))
  else
    loopN (fun rec1 => fun
    | ((v1aa, ()), ()) =>
      (bif decide ((v1aa < ((x0.length : Nat) : Int))) then
        (bif inB v1aa x0.length then
          (bif (!(S_isPt ((x0.getD v1aa.toNat ((0, (0, ())), (0, (0, (false, ()))))).1))) then
            some ((1, ()), ((), ()))
          else
            (bif (!(S_within (((x0.getD v1aa.toNat ((0, (0, ())), (0, (0, (false, ()))))).2).1) 1 10000)) then
              some ((1, ()), ((), ()))
            else
              (bif (!(S_within ((((x0.getD v1aa.toNat ((0, (0, ())), (0, (0, (false, ()))))).2).2).1) 1 100000)) then
                some ((1, ()), ((), ()))
              else
                rec1 ((wrapI .i64 (v1aa + 1), ()), ()))))
        else
          none)
      else
        some ((0, ()), ((), ()))))
    n ((0, ()), ()))
theorem B_drill_CheckHoles_eq (n : Nat) (x0 : List ((Int × (Int × Unit)) × (Int × (Int × (Bool × Unit))))) : bodyE ty T_drill_CheckHoles n I_drill_CheckHoles (x0, ()) = B_drill_CheckHoles n x0 := by kernel_rfl

end Go.Proofs.Ytmhhodnackfhmaa
namespace Go.Proofs.Ytmhhodnackfhmaa
open Go Go.VM
def S_hole (h : Hole) : Bool := S_isPt h.1 && (S_within h.2.1 1 10000 && S_within h.2.2.1 1 100000)
def S_chkH (l : List Hole) : Int := bif decide ((2000 : Int) < (l.length : Int)) then 2 else bif l.all S_hole then 0 else 1
theorem ok_drill_CheckHoles (x0 : List Hole) (hok : OkA I_drill_CheckHoles.args (x0, ())) : ∃ n, bodyE ty T_drill_CheckHoles n I_drill_CheckHoles (x0, ()) = some ((S_chkH x0, ()), ((), ())) := ⟨x0.length + 1, by
  obtain ⟨⟨hl, _⟩, _⟩ := hok
  rw [B_drill_CheckHoles_eq]
  unfold B_drill_CheckHoles S_chkH
  cases hd : decide ((2000 : Int) < (x0.length : Int)) with
  | true => rfl
  | false =>
    simp only [cond_false]
    refine (loop_list (l := x0) (fun i (_ : Unit) => ((i, ()), ())) (fun a i _ => bif S_hole a then .inl () else .inr (some ((1, ()), ((), ())))) (fun _ => some ((0, ()), ((), ()))) (fun i h s rec => ?_) (fun s rec => ?_) (Nat.lt_succ_self _) ()).trans ?_
    · simp only [lt_nat h, inB_nat h, getD_lt h, succ64 h hl, cond_true, S_hole]
      cases S_isPt x0[i].1 <;> cases S_within x0[i].2.1 1 10000 <;> cases S_within x0[i].2.2.1 1 100000 <;> rfl
    · simp only [lt_self, cond_false]
    · rw [goL_all]
      cases x0.all S_hole <;> rfl⟩
noncomputable def E_drill_CheckHoles : Entry Try.prog := Entry.of tok T_drill_CheckHoles I_drill_CheckHoles it_drill_CheckHoles (fun (x0, ()) => some ((S_chkH x0, ()), ((), ()))) (fun (x0, ()) r hok h => by cases h; exact ok_drill_CheckHoles x0 hok)

end Go.Proofs.Ytmhhodnackfhmaa
namespace Go.Proofs.Ytmhhodnackfhmaa
open Go Go.VM
/-! ### etchhouse.drill.toolFor$1 -/
noncomputable def I_drill_toolFor_1_io : Inst := ⟨57, Try.f57, .two (.reg []) (.two (.reg []) (.leaf)), (.cons (.pv (.pair .str (.pair i (.pair i (.pair i .unit))))) (.cons (.io .flat i) .nil)), (.cons .flat i .nil)⟩
theorem it_drill_toolFor_1_io : InTab Try.prog I_drill_toolFor_1_io := ⟨Try.func57, by kernel_rfl, rfl⟩
noncomputable def T_drill_toolFor_1_io : Nat → Entry Try.prog := nth (Entry.no Try.f0) []
noncomputable def B_drill_toolFor_1_io (x0 : (ByteArray × (Int × (Int × (Int × Unit))))) (x1 : Int) : Option (((Int × Unit) × (Unit × (Int × Unit)))) :=
  some (((bif decide ((wrapI .i64 (x0.2.1 - x1) < wrapI .i64 (x1 - x0.2.1))) then wrapI .i64 (x1 - x0.2.1) else wrapI .i64 (x0.2.1 - x1)), ()), ((), (x1, ())))
theorem B_drill_toolFor_1_io_eq (n : Nat) (x0 : (ByteArray × (Int × (Int × (Int × Unit))))) (x1 : Int) : bodyE ty T_drill_toolFor_1_io n I_drill_toolFor_1_io (x0, (x1, ())) = B_drill_toolFor_1_io x0 x1 := by kernel_rfl

end Go.Proofs.Ytmhhodnackfhmaa
namespace Go.Proofs.Ytmhhodnackfhmaa
open Go Go.VM
theorem ok_drill_toolFor_1_io (x0 : Mat) (x1 : Int) (hok : OkA I_drill_toolFor_1_io.args (x0, x1, ())) : ∃ n, bodyE ty T_drill_toolFor_1_io n I_drill_toolFor_1_io (x0, x1, ()) = some ((S_off x0 x1, ()), ((), x1, ())) := ⟨0, by rw [B_drill_toolFor_1_io_eq]; rfl⟩
noncomputable def E_drill_toolFor_1_io : Entry Try.prog := Entry.of tok T_drill_toolFor_1_io I_drill_toolFor_1_io it_drill_toolFor_1_io (fun (x0, x1, ()) => some ((S_off x0 x1, ()), ((), x1, ()))) (fun (x0, x1, ()) r hok h => by cases h; exact ok_drill_toolFor_1_io x0 x1 hok)

end Go.Proofs.Ytmhhodnackfhmaa
namespace Go.Proofs.Ytmhhodnackfhmaa
open Go Go.VM
/-! ### cmp.isNaN[int] -/
noncomputable def I_cmp_isNaN_int : Inst := ⟨72, Try.f72, .two (.reg []) (.two (.reg []) (.leaf)), (.cons (.pv i) .nil), (.cons .flat .bool .nil)⟩
theorem it_cmp_isNaN_int : InTab Try.prog I_cmp_isNaN_int := ⟨Try.func72, by kernel_rfl, rfl⟩
noncomputable def T_cmp_isNaN_int : Nat → Entry Try.prog := nth (Entry.no Try.f0) []
noncomputable def B_cmp_isNaN_int (x0 : Int) : Option (((Bool × Unit) × (Unit × Unit))) :=
  some (((!(decide ((x0 = x0)))), ()), ((), ()))
theorem B_cmp_isNaN_int_eq (n : Nat) (x0 : Int) : bodyE ty T_cmp_isNaN_int n I_cmp_isNaN_int (x0, ()) = B_cmp_isNaN_int x0 := by kernel_rfl

end Go.Proofs.Ytmhhodnackfhmaa
namespace Go.Proofs.Ytmhhodnackfhmaa
open Go Go.VM
def S_cmp_isNaN_int (x0 : Int) : Bool := (!(decide ((x0 = x0))))
theorem ok_cmp_isNaN_int (x0 : Int) (hok : OkA I_cmp_isNaN_int.args (x0, ())) : ∃ n, bodyE ty T_cmp_isNaN_int n I_cmp_isNaN_int (x0, ()) = some (((S_cmp_isNaN_int x0), ()), ((), ())) := ⟨0, by rw [B_cmp_isNaN_int_eq]; rfl⟩
noncomputable def E_cmp_isNaN_int : Entry Try.prog := Entry.of tok T_cmp_isNaN_int I_cmp_isNaN_int it_cmp_isNaN_int (fun (x0, ()) => some (((S_cmp_isNaN_int x0), ()), ((), ()))) (fun (x0, ()) r hok h => by cases h; exact ok_cmp_isNaN_int x0 hok)

end Go.Proofs.Ytmhhodnackfhmaa
namespace Go.Proofs.Ytmhhodnackfhmaa
open Go Go.VM
/-! ### cmp.Compare[int] -/
noncomputable def I_cmp_Compare_int : Inst := ⟨59, Try.f59, .two (.reg []) (.two (.reg [(1, 0)]) (.two (.reg [(1, 0)]) (.two (.two (.reg []) (.two (.two (.two (.reg []) (.two (.two (.reg []) (.leaf)) (.leaf))) (.two (.reg []) (.leaf))) (.leaf))) (.two (.two (.reg []) (.two (.two (.reg []) (.leaf)) (.leaf))) (.two (.two (.reg []) (.two (.two (.reg []) (.leaf)) (.leaf))) (.two (.two (.reg []) (.two (.two (.reg []) (.leaf)) (.leaf))) (.two (.reg []) (.leaf)))))))), (.cons (.pv i) (.cons (.pv i) .nil)), (.cons .flat i .nil)⟩
theorem it_cmp_Compare_int : InTab Try.prog I_cmp_Compare_int := ⟨Try.func59, by kernel_rfl, rfl⟩
noncomputable def T_cmp_Compare_int : Nat → Entry Try.prog := nth (Entry.no Try.f0) [E_cmp_isNaN_int]
noncomputable def B_cmp_Compare_int (x0 : Int) (x1 : Int) : Option (((Int × Unit) × (Unit × (Unit × Unit)))) :=
  (bif S_cmp_isNaN_int x0 then
    (bif S_cmp_isNaN_int x1 then
      some ((0, ()), ((), ((), ())))
    else
      some (((-1), ()), ((), ((), ()))))
  else
    (bif S_cmp_isNaN_int x1 then
      some ((1, ()), ((), ((), ())))
    else
      (bif decide ((x0 < x1)) then
        some (((-1), ()), ((), ((), ())))
      else
        (bif decide ((x1 < x0)) then
          some ((1, ()), ((), ((), ())))
        else
          some ((0, ()), ((), ((), ())))))))
theorem B_cmp_Compare_int_eq (n : Nat) (x0 : Int) (x1 : Int) : bodyE ty T_cmp_Compare_int n I_cmp_Compare_int (x0, (x1, ())) = B_cmp_Compare_int x0 x1 := by kernel_rfl

end Go.Proofs.Ytmhhodnackfhmaa
namespace Go.Proofs.Ytmhhodnackfhmaa
open Go Go.VM
theorem ok_cmp_Compare_int (x0 x1 : Int) (hok : OkA I_cmp_Compare_int.args (x0, x1, ())) : ∃ n, bodyE ty T_cmp_Compare_int n I_cmp_Compare_int (x0, x1, ()) = some ((S_cmpI x0 x1, ()), ((), (), ())) := ⟨0, by
  rw [B_cmp_Compare_int_eq]
  have e : ∀ x, S_cmp_isNaN_int x = false := fun x => by unfold S_cmp_isNaN_int; simp
  unfold B_cmp_Compare_int S_cmpI
  rw [e, e]
  cases decide (x0 < x1) <;> cases decide (x1 < x0) <;> rfl⟩
noncomputable def E_cmp_Compare_int : Entry Try.prog := Entry.of tok T_cmp_Compare_int I_cmp_Compare_int it_cmp_Compare_int (fun (x0, x1, ()) => some ((S_cmpI x0 x1, ()), ((), (), ()))) (fun (x0, x1, ()) r hok h => by cases h; exact ok_cmp_Compare_int x0 x1 hok)

end Go.Proofs.Ytmhhodnackfhmaa
namespace Go.Proofs.Ytmhhodnackfhmaa
open Go Go.VM
/-! ### cmp.Or[int] -/
noncomputable def I_cmp_Or_int : Inst := ⟨58, Try.f58, .two (.reg []) (.two (.reg []) (.two (.two (.reg []) (.one (.loop ⟨[(8, .pv i)], [], [3, 6, 7], []⟩ (.two (.reg []) (.two (.two (.leaf) (.leaf)) (.two (.one (.two (.reg []) (.two (.reg []) (.two (.two (.reg []) (.leaf)) (.leaf))))) (.reg []))))))) (.two (.reg []) (.leaf)))), (.cons (.pv (.sl i)) .nil), (.cons .flat i .nil)⟩
theorem it_cmp_Or_int : InTab Try.prog I_cmp_Or_int := ⟨Try.func58, by kernel_rfl, rfl⟩
noncomputable def T_cmp_Or_int : Nat → Entry Try.prog := nth (Entry.no Try.f0) []
noncomputable def B_cmp_Or_int (n : Nat) (x0 : List Int) : Option (((Int × Unit) × (Unit × Unit))) :=
  loopN (fun rec1 => fun
  | ((v1aa, ()), ()) =>
    (bif decide ((v1aa < ((x0.length : Nat) : Int))) then
      (bif inB v1aa x0.length then
        (bif (!(decide ((x0.getD v1aa.toNat (0 : Int) = 0)))) then
          some ((x0.getD v1aa.toNat (0 : Int), ()), ((), ()))
        else
          rec1 ((wrapI .i64 (v1aa + 1), ()), ()))
      else
        none)
    else
      some ((0, ()), ((), ()))))
  n ((0, ()), ())
theorem B_cmp_Or_int_eq (n : Nat) (x0 : List Int) : bodyE ty T_cmp_Or_int n I_cmp_Or_int (x0, ()) = B_cmp_Or_int n x0 := by kernel_rfl

end Go.Proofs.Ytmhhodnackfhmaa
namespace Go.Proofs.Ytmhhodnackfhmaa
open Go Go.VM
def S_or : List Int → Int
  | [] => 0
  | a :: r => bif decide (a = 0) then S_or r else a
theorem or_go {A : Type} {R : Int → A} : ∀ (l : List Int) (i : Nat), goL (fun (a : Int) (_ : Nat) (_ : Unit) => bif decide (a = 0) then .inl () else .inr (some (R a))) (fun _ => some (R 0)) l i () = some (R (S_or l))
  | [], _ => rfl
  | a :: r, i => by
    simp only [goL, S_or]
    cases decide (a = 0) with
    | true => exact or_go r (i + 1)
    | false => rfl
theorem ok_cmp_Or_int (x0 : List Int) (hok : OkA I_cmp_Or_int.args (x0, ())) : ∃ n, bodyE ty T_cmp_Or_int n I_cmp_Or_int (x0, ()) = some ((S_or x0, ()), ((), ())) := ⟨x0.length + 1, by
  have hl : x0.length ≤ maxLen := hok.1.1
  rw [B_cmp_Or_int_eq]
  unfold B_cmp_Or_int
  refine (loop_list (l := x0) (fun i (_ : Unit) => ((i, ()), ())) (fun a _ _ => bif decide (a = 0) then .inl () else .inr (some ((a, ()), ((), ())))) (fun _ => some ((0, ()), ((), ()))) (fun i h s rec => ?_) (fun s rec => by simp only [lt_self, cond_false]) (Nat.lt_succ_self _) ()).trans (or_go (R := fun a => ((a, ()), ((), ()))) x0 0)
  simp only [lt_nat h, inB_nat h, getD_at h, succ64 h hl, cond_true, Int.toNat_natCast]
  cases decide (x0[i] = 0) <;> rfl⟩
noncomputable def E_cmp_Or_int : Entry Try.prog := Entry.of tok T_cmp_Or_int I_cmp_Or_int it_cmp_Or_int (fun (x0, ()) => some ((S_or x0, ()), ((), ()))) (fun (x0, ()) r hok h => by cases h; exact ok_cmp_Or_int x0 hok)

end Go.Proofs.Ytmhhodnackfhmaa
namespace Go.Proofs.Ytmhhodnackfhmaa
open Go Go.VM
/-! ### etchhouse.drill.toolFor -/
noncomputable def I_drill_toolFor : Inst := ⟨37, Try.f37, .two (.reg []) (.two (.reg []) (.two (.reg []) (.two (.two (.reg []) (.one (.loop ⟨[(8, .pv i), (14, .pv i)], [(4, ⟨.flat, i, true, false⟩)], [0, 2, 7, 12, 13], []⟩ (.two (.reg []) (.two (.two (.leaf) (.leaf)) (.two (.one (.two (.reg []) (.two (.draw [(2, 0), (11, 0), (17, 0), (18, 1), (26, 1), (28, 2)] [0, 1, 3, 2, 4, 5, 6, 7, 8, 9, 10, 12, 13, 14, 15, 16, 19, 20, 21, 22, 23, 24, 25, 11, 17, 18, 26, 27, 28, 29, 30, 31] [10, 4]) (.two (.reg []) (.leaf))))) (.reg []))))))) (.two (.reg []) (.leaf))))), (.cons (.pv (.sl (.pair .str (.pair i (.pair i (.pair i .unit)))))) (.cons (.pv i) (.cons (.pv i) .nil))), (.cons .flat i .nil)⟩
theorem it_drill_toolFor : InTab Try.prog I_drill_toolFor := ⟨Try.func37, by kernel_rfl, rfl⟩
noncomputable def T_drill_toolFor : Nat → Entry Try.prog := nth (Entry.no Try.f0) [E_drill_toolFor_1_io, E_cmp_Compare_int, E_cmp_Or_int]
noncomputable def B_drill_toolFor (n : Nat) (x0 : List (ByteArray × (Int × (Int × (Int × Unit))))) (x1 : Int) (x2 : Int) : Option (((Int × Unit) × (Unit × (Unit × (Unit × Unit))))) :=
  loopN (fun rec1 => fun
  | ((v1aa, (v1aba, ())), (v1ba, ())) =>
    (bif decide ((v1aba < ((x0.length : Nat) : Int))) then
      (bif inB v1aba x0.length then
        (bif decide ((S_off (x0.getD v1aba.toNat ((strOf []), (0, (0, (0, ()))))) v1ba ≤ x2)) then
          (bif decide ((v1aa < 0)) then
            rec1 ((v1aba, (wrapI .i64 (v1aba + 1), ())), (v1ba, ()))
          else
            (bif inB v1aa x0.length then
              (bif inB v1aa x0.length then
                (bif decide ((((S_or ([S_cmpI (S_off (x0.getD v1aba.toNat ((strOf []), (0, (0, (0, ()))))) v1ba) (S_off (x0.getD v1aa.toNat ((strOf []), (0, (0, (0, ()))))) v1ba), S_cmpI (((x0.getD v1aa.toNat ((strOf []), (0, (0, (0, ()))))).2).1) (((x0.getD v1aba.toNat ((strOf []), (0, (0, (0, ()))))).2).1)])) : Int) < 0)) then
                  rec1 ((v1aba, (wrapI .i64 (v1aba + 1), ())), (v1ba, ()))
                else
                  rec1 ((v1aa, (wrapI .i64 (v1aba + 1), ())), (v1ba, ())))
              else
                none)
            else
              none))
        else
          rec1 ((v1aa, (wrapI .i64 (v1aba + 1), ())), (v1ba, ())))
      else
        none)
    else
      some ((v1aa, ()), ((), ((), ((), ()))))))
  n (((-1), (0, ())), (x1, ()))
theorem B_drill_toolFor_eq (n : Nat) (x0 : List (ByteArray × (Int × (Int × (Int × Unit))))) (x1 : Int) (x2 : Int) : bodyE ty T_drill_toolFor n I_drill_toolFor (x0, (x1, (x2, ()))) = B_drill_toolFor n x0 x1 x2 := by kernel_rfl

end Go.Proofs.Ytmhhodnackfhmaa
namespace Go.Proofs.Ytmhhodnackfhmaa
open Go Go.VM
def S_toolP (t : List Mat) (size near : Int) : Int := S_tf (fun a => S_off a size) t near
theorem or_two (a b : Int) : S_or [a, b] = bif decide (a = 0) then (bif decide (b = 0) then 0 else b) else a := rfl
theorem ok_drill_toolFor (x0 : List Mat) (x1 x2 : Int) (hok : OkA I_drill_toolFor.args (x0, x1, x2, ())) : ∃ n, bodyE ty T_drill_toolFor n I_drill_toolFor (x0, x1, x2, ()) = some ((S_toolP x0 x1 x2, ()), ((), (), (), ())) := ⟨x0.length + 1, by
  have hl : x0.length ≤ maxLen := hok.1.1
  rw [B_drill_toolFor_eq]
  unfold B_drill_toolFor S_toolP S_tf
  refine (loop_fold (l := x0) (fun i (b : Int) => ((b, (i, ())), (x1, ()))) (fun i b => -1 ≤ b ∧ b < (i : Int)) (tfF (fun a => S_off a x1) x0 x2) (fun b => some ((b, ()), ((), (), (), ()))) (fun i h b hI => ⟨tf_inv _ x0 x2 hI _, fun rec => ?_⟩) (fun b _ rec => by simp only [lt_self, cond_false]) (Nat.lt_succ_self _) (s := -1) (by simp)).trans rfl
  simp only [lt_nat h, inB_nat h, getD_at h, succ64 h hl, cond_true, Int.toNat_natCast, cmp_or S_or or_two]
  unfold tfF
  by_cases c1 : x2 < S_off x0[i] x1
  · rw [decide_eq_true c1, decide_eq_false (show ¬ S_off x0[i] x1 ≤ x2 by omega)]; rfl
  · rw [decide_eq_false c1, decide_eq_true (show S_off x0[i] x1 ≤ x2 by omega)]
    simp only [cond_true, cond_false]
    by_cases c2 : b < 0
    · rw [decide_eq_true c2]; rfl
    · have hb : inB b x0.length = true := inB_int (by omega) (by omega)
      rw [decide_eq_false c2, hb]
      simp only [cond_true, cond_false]
      change (bif (decide (S_off x0[i] x1 < S_off (x0.getD b.toNat mat0) x1) || (decide (S_off x0[i] x1 = S_off (x0.getD b.toNat mat0) x1) && decide ((x0.getD b.toNat mat0).2.1 < x0[i].2.1))) then _ else _) = _
      cases decide (S_off x0[i] x1 < S_off (x0.getD b.toNat mat0) x1) <;> cases decide (S_off x0[i] x1 = S_off (x0.getD b.toNat mat0) x1) <;> cases decide ((x0.getD b.toNat mat0).2.1 < x0[i].2.1) <;> rfl⟩
noncomputable def E_drill_toolFor : Entry Try.prog := Entry.of tok T_drill_toolFor I_drill_toolFor it_drill_toolFor (fun (x0, x1, x2, ()) => some ((S_toolP x0 x1 x2, ()), ((), (), (), ()))) (fun (x0, x1, x2, ()) r hok h => by cases h; exact ok_drill_toolFor x0 x1 x2 hok)

end Go.Proofs.Ytmhhodnackfhmaa
namespace Go.Proofs.Ytmhhodnackfhmaa
open Go Go.VM
/-! ### etchhouse.drill.Chosen -/
noncomputable def I_drill_Chosen : Inst := ⟨12, Try.f12, .two (.reg []) (.two (.two (.reg [(1, 0)]) (.two (.reg []) (.two (.two (.reg []) (.leaf)) (.leaf)))) (.two (.two (.reg [(1, 1)]) (.two (.reg []) (.two (.two (.reg []) (.leaf)) (.leaf)))) (.two (.two (.reg [(1, 2)]) (.two (.two (.reg []) (.leaf)) (.leaf))) (.two (.reg []) (.two (.reg []) (.two (.two (.reg []) (.one (.loop ⟨[(12, .st (.at (.rf 12 []))), (37, .pv i)], [(12, ⟨(.own .flat), (.sl i), false, false⟩), (11, ⟨(.own (.own .flat)), (.sl (.sl (.pair (.pair i (.pair i .unit)) (.pair i (.pair i (.pair .bool .unit)))))), false, false⟩)], [0, 2, 11, 35, 36], []⟩ (.two (.reg []) (.two (.two (.leaf) (.leaf)) (.two (.one (.two (.reg []) (.two (.reg [(4, 3)]) (.two (.reg []) (.two (.reg []) (.draw [] [0, 1, 2, 3, 4, 5, 6, 7, 8, 9, 10] [14, 11])))))) (.reg []))))))) (.two (.reg []) (.two (.two (.reg []) (.one (.loop ⟨[(16, .st (.at (.rf 16 []))), (66, .pv i)], [(16, ⟨(.own .flat), (.sl (.pair .str (.pair (.sl (.pair (.pair i (.pair i .unit)) (.pair i (.pair i (.pair .bool .unit))))) .unit))), false, false⟩), (11, ⟨.flat, (.sl (.sl (.pair (.pair i (.pair i .unit)) (.pair i (.pair i (.pair .bool .unit)))))), false, false⟩)], [0, 12, 64, 65], [12]⟩ (.two (.reg []) (.two (.two (.leaf) (.leaf)) (.two (.one (.two (.reg []) (.two (.reg []) (.two (.reg []) (.leaf))))) (.reg []))))))) (.two (.reg []) (.leaf)))))))))), (.cons (.pv (.sl (.pair .str (.pair i (.pair i (.pair i .unit)))))) (.cons (.pv (.sl (.pair (.pair i (.pair i .unit)) (.pair i (.pair i (.pair .bool .unit)))))) (.cons (.pv i) .nil))), (.cons (.own .flat) (.sl (.pair .str (.pair (.sl (.pair (.pair i (.pair i .unit)) (.pair i (.pair i (.pair .bool .unit))))) .unit))) (.cons (.own .flat) (.sl i) (.cons .flat i .nil)))⟩
theorem it_drill_Chosen : InTab Try.prog I_drill_Chosen := ⟨Try.func12, by kernel_rfl, rfl⟩
noncomputable def T_drill_Chosen : Nat → Entry Try.prog := nth (Entry.no Try.f0) [E_drill_CheckTools, E_drill_CheckHoles, E_drill_within, E_drill_toolFor]
noncomputable def B_drill_Chosen (n : Nat) (x0 : List (ByteArray × (Int × (Int × (Int × Unit))))) (x1 : List ((Int × (Int × Unit)) × (Int × (Int × (Bool × Unit))))) (x2 : Int) : Option (((List (ByteArray × (List ((Int × (Int × Unit)) × (Int × (Int × (Bool × Unit)))) × Unit)) × (List Int × (Int × Unit))) × (Unit × (Unit × (Unit × Unit))))) :=
  (bif (!(decide ((S_chkT x0 = 0)))) then
    some (([], ([], (S_chkT x0, ()))), ((), ((), ((), ()))))
  else
    (bif (!(decide ((S_chkH x1 = 0)))) then
      some (([], ([], (S_chkH x1, ()))), ((), ((), ((), ()))))
    else
      (bif (!(S_within x2 0 10000)) then
        some (([], ([], (1, ()))), ((), ((), ((), ()))))
      else
        (bif ((decide ((0 ≤ ((x0.length : Nat) : Int))) && decide ((((x0.length : Nat) : Int) ≤ ((x0.length : Nat) : Int)))) && decide ((((x0.length : Nat) : Int) ≤ 4294967296))) then
          loopN (fun rec1 => fun
          | ((v1aa, ()), (v1ba, (v1bba, ()))) =>
            (bif decide ((v1aa < ((x1.length : Nat) : Int))) then
              (bif inB v1aa x1.length then
                (bif decide ((S_toolP x0 (((x1.getD v1aa.toNat ((0, (0, ())), (0, (0, (false, ()))))).2).1) x2 < 0)) then
                  (bif decide (((v1ba.length + 1) ≤ 4294967296)) then
                    rec1 ((wrapI .i64 (v1aa + 1), ()), ((v1ba ++ [v1aa]), (v1bba, ())))
                  else
                    none)
                else
                  (bif inB (S_toolP x0 (((x1.getD v1aa.toNat ((0, (0, ())), (0, (0, (false, ()))))).2).1) x2) v1bba.length then
                    (bif decide ((((v1bba.getD ((S_toolP x0 (((x1.getD v1aa.toNat ((0, (0, ())), (0, (0, (false, ()))))).2).1) x2).toNat) []).length + 1) ≤ 4294967296)) then
                      (bif inB (S_toolP x0 (((x1.getD v1aa.toNat ((0, (0, ())), (0, (0, (false, ()))))).2).1) x2) v1bba.length then
                        (bif Nat.beq ((S_toolP x0 (((x1.getD v1aa.toNat ((0, (0, ())), (0, (0, (false, ()))))).2).1) x2).toNat) ((S_toolP x0 (((x1.getD v1aa.toNat ((0, (0, ())), (0, (0, (false, ()))))).2).1) x2).toNat) then
                          (bif Nat.beq ((S_toolP x0 (((x1.getD v1aa.toNat ((0, (0, ())), (0, (0, (false, ()))))).2).1) x2).toNat) ((S_toolP x0 (((x1.getD v1aa.toNat ((0, (0, ())), (0, (0, (false, ()))))).2).1) x2).toNat) then
                            rec1 ((wrapI .i64 (v1aa + 1), ()), (v1ba, (v1bba.set ((S_toolP x0 (((x1.getD v1aa.toNat ((0, (0, ())), (0, (0, (false, ()))))).2).1) x2).toNat) (v1bba.getD ((S_toolP x0 (((x1.getD v1aa.toNat ((0, (0, ())), (0, (0, (false, ()))))).2).1) x2).toNat) [] ++ [x1.getD v1aa.toNat ((0, (0, ())), (0, (0, (false, ()))))]), ())))
                          else
                            none)
                        else
                          none)
                      else
                        none)
                    else
                      none)
                  else
                    none))
              else
                none)
            else
              loopN (fun rec2 => fun
              | ((v2aa, ()), (v2ba, (v2bba, ()))) =>
                (bif decide ((v2aa < ((v1bba.length : Nat) : Int))) then
                  (bif inB v2aa v2bba.length then
                    (bif decide ((0 < (((v2bba.getD v2aa.toNat []).length : Nat) : Int))) then
                      (bif inB v2aa x0.length then
                        (bif decide (((v2ba.length + 1) ≤ 4294967296)) then
                          rec2 ((wrapI .i64 (v2aa + 1), ()), ((v2ba ++ [((x0.getD v2aa.toNat ((strOf []), (0, (0, (0, ()))))).1, (v2bba.getD v2aa.toNat [], ()))]), (v2bba, ())))
                        else
                          none)
                      else
                        none)
                    else
                      rec2 ((wrapI .i64 (v2aa + 1), ()), (v2ba, (v2bba, ()))))
                  else
                    none)
                else
                  some ((v2ba, (v1ba, (0, ()))), ((), ((), ((), ()))))))
              n ((0, ()), ([], (v1bba, ())))))
          n ((0, ()), ([], (List.replicate (α := List ((Int × (Int × Unit)) × (Int × (Int × (Bool × Unit))))) (((x0.length : Nat) : Int).toNat) [], ())))
        else
          none))))
theorem B_drill_Chosen_eq (n : Nat) (x0 : List (ByteArray × (Int × (Int × (Int × Unit))))) (x1 : List ((Int × (Int × Unit)) × (Int × (Int × (Bool × Unit))))) (x2 : Int) : bodyE ty T_drill_Chosen n I_drill_Chosen (x0, (x1, (x2, ()))) = B_drill_Chosen n x0 x1 x2 := by kernel_rfl

end Go.Proofs.Ytmhhodnackfhmaa
namespace Go.Proofs.Ytmhhodnackfhmaa
open Go Go.VM
theorem ok_drill_Chosen (x0 : List Mat) (x1 : List Hole) (x2 : Int) (hok : OkA I_drill_Chosen.args (x0, x1, x2, ())) : ∃ n, bodyE ty T_drill_Chosen n I_drill_Chosen (x0, x1, x2, ()) = some ((S_ChoJ (S_chkH x1) (fun a => S_toolP x0 a x2) x0 x1 x2, S_ChoN (S_chkH x1) (fun a => S_toolP x0 a x2) x0 x1 x2, S_ChoF (S_chkH x1) x0 x2, ()), ((), (), (), ())) := ⟨x1.length + x0.length + 1, by
  have ht : x0.length ≤ maxLen := hok.1.1
  have hl : x1.length ≤ maxLen := hok.2.1.1
  rw [B_drill_Chosen_eq]
  unfold B_drill_Chosen S_ChoJ S_ChoN S_ChoF choOk
  cases hT : decide (S_chkT x0 = 0) with
  | false => rfl
  | true =>
  cases hH : decide (S_chkH x1 = 0) with
  | false => rfl
  | true =>
  cases S_within x2 0 10000 with
  | false => rfl
  | true =>
  have hH := of_decide_eq_true hH
  have hT := (chkT_at (of_decide_eq_true hT)).1
  have hH2 : x1.length ≤ 2000 := by
    unfold S_chkH at hH
    cases hd : decide ((2000 : Int) < (x1.length : Int)) with
    | true => rw [hd] at hH; cases hH
    | false => have := of_decide_eq_false hd; omega
  have c0 : ((decide ((0 : Int) ≤ ((x0.length : Nat) : Int)) && decide ((((x0.length : Nat) : Int) ≤ ((x0.length : Nat) : Int)))) && decide ((((x0.length : Nat) : Int) ≤ 4294967296))) = true := by simp; omega
  rw [hH]
  simp only [Bool.not_true, Bool.and_true, cond_false, cond_true, c0]
  refine (loop_fold (l := x1) (fun i (s : List Int × List (List Hole)) => ((i, ()), (s.1, (s.2, ())))) (choI x0) (choF (fun a => S_toolP x0 a x2)) (fun s => some ((foldI (choG s.2) x0 0 [], s.1, 0, ()), ((), (), (), ()))) (fun i h s hI => ⟨cho_inv hI, fun rec => ?_⟩) (fun s hI rec => ?_) (show x1.length < x1.length + x0.length + 1 by omega) (s := ([], List.replicate x0.length [])) (choI_zero x0)).trans rfl
  · obtain ⟨h1, h2, h3⟩ := hI
    have hb := tf_bound (fun a => S_off a x1[i].2.1) x0 x2
    have hb : -1 ≤ S_toolP x0 x1[i].2.1 x2 ∧ S_toolP x0 x1[i].2.1 x2 < (x0.length : Int) := hb
    simp only [lt_nat h, inB_nat h, getD_at h, succ64 h hl, cond_true, Int.toNat_natCast]
    unfold choF
    by_cases c1 : S_toolP x0 x1[i].2.1 x2 < 0
    · have c3 : decide (s.1.length + 1 ≤ 4294967296) = true := decide_eq_true (by omega)
      simp only [decide_eq_true c1, cond_true, c3]
    · have hk := h3 (S_toolP x0 x1[i].2.1 x2).toNat
      have c3 : decide ((s.2.getD (S_toolP x0 x1[i].2.1 x2).toNat []).length + 1 ≤ 4294967296) = true := decide_eq_true (by omega)
      have hib : inB (S_toolP x0 x1[i].2.1 x2) s.2.length = true := inB_int (by omega) (by omega)
      have hbq : Nat.beq (S_toolP x0 x1[i].2.1 x2).toNat (S_toolP x0 x1[i].2.1 x2).toNat = true := Nat.beq_refl _
      simp only [decide_eq_false c1, cond_false, cond_true, c3, hib, hbq]
  · obtain ⟨h1, h2, h3⟩ := hI
    simp only [lt_self, cond_false]
    refine (loop_fold (l := x0) (fun k (o : List Job) => ((k, ()), (o, (s.2, ())))) (fun k o => o.length ≤ k) (choG s.2) (fun o => some ((o, s.1, 0, ()), ((), (), (), ()))) (fun k hk o ho => ⟨choG_len ho, fun rec2 => ?_⟩) (fun o _ rec2 => by simp only [h2, lt_self, cond_false]) (show x0.length < x1.length + x0.length + 1 by omega) (s := []) (Nat.le_refl _)).trans rfl
    have c3 : decide (o.length + 1 ≤ 4294967296) = true := decide_eq_true (by omega)
    simp only [h2, lt_nat hk, inB_nat hk, getD_at hk, succ64 hk ht, cond_true, Int.toNat_natCast, c3]
    unfold choG
    cases decide ((0 : Int) < (((s.2.getD k []).length : Nat) : Int)) <;> rfl⟩
noncomputable def E_drill_Chosen : Entry Try.prog := Entry.of tok T_drill_Chosen I_drill_Chosen it_drill_Chosen (fun (x0, x1, x2, ()) => some ((S_ChoJ (S_chkH x1) (fun a => S_toolP x0 a x2) x0 x1 x2, S_ChoN (S_chkH x1) (fun a => S_toolP x0 a x2) x0 x1 x2, S_ChoF (S_chkH x1) x0 x2, ()), ((), (), (), ()))) (fun (x0, x1, x2, ()) r hok h => by cases h; exact ok_drill_Chosen x0 x1 x2 hok)

end Go.Proofs.Ytmhhodnackfhmaa
namespace Go.Proofs.Ytmhhodnackfhmaa
open Go Go.VM
/-! ### etchhouse.drill.checkPoints$1 -/
noncomputable def I_drill_checkPoints_1 : Inst := ⟨71, Try.f71, .two (.reg []) (.two (.reg [(1, 0)]) (.leaf)), (.cons (.pv (.pair i (.pair i .unit))) .nil), (.cons .flat .bool .nil)⟩
theorem it_drill_checkPoints_1 : InTab Try.prog I_drill_checkPoints_1 := ⟨Try.func71, by kernel_rfl, rfl⟩
noncomputable def T_drill_checkPoints_1 : Nat → Entry Try.prog := nth (Entry.no Try.f0) [E_shape_IsPoint]
noncomputable def B_drill_checkPoints_1 (x0 : (Int × (Int × Unit))) : Option (((Bool × Unit) × (Unit × Unit))) :=
  some (((!(S_isPt x0)), ()), ((), ()))
theorem B_drill_checkPoints_1_eq (n : Nat) (x0 : (Int × (Int × Unit))) : bodyE ty T_drill_checkPoints_1 n I_drill_checkPoints_1 (x0, ()) = B_drill_checkPoints_1 x0 := by kernel_rfl

end Go.Proofs.Ytmhhodnackfhmaa
namespace Go.Proofs.Ytmhhodnackfhmaa
open Go Go.VM
theorem ok_drill_checkPoints_1 (x0 : Int × Int × Unit) (hok : OkA I_drill_checkPoints_1.args (x0, ())) : ∃ n, bodyE ty T_drill_checkPoints_1 n I_drill_checkPoints_1 (x0, ()) = some ((!S_isPt x0, ()), ((), ())) := ⟨0, by rw [B_drill_checkPoints_1_eq]; rfl⟩
noncomputable def E_drill_checkPoints_1 : Entry Try.prog := Entry.of tok T_drill_checkPoints_1 I_drill_checkPoints_1 it_drill_checkPoints_1 (fun (x0, ()) => some ((!S_isPt x0, ()), ((), ()))) (fun (x0, ()) r hok h => by cases h; exact ok_drill_checkPoints_1 x0 hok)

end Go.Proofs.Ytmhhodnackfhmaa
namespace Go.Proofs.Ytmhhodnackfhmaa
open Go Go.VM
/-! ### slices.IndexFunc[[]etchhouse.api.Point,etchhouse.api.Point] -/
noncomputable def I_slices_IndexFunc_etchhouse_api_Point_etchhouse_api_Point_of_drill_checkPoints_1 : Inst := ⟨88, Try.f88, .two (.reg []) (.two (.two (.reg []) (.one (.loop ⟨[(8, .pv i)], [], [0, 1, 7], []⟩ (.two (.reg []) (.two (.two (.leaf) (.leaf)) (.two (.one (.two (.reg []) (.two (.reg [(5, 0)]) (.two (.two (.reg []) (.leaf)) (.leaf))))) (.reg []))))))) (.two (.reg []) (.leaf))), (.cons (.pv (.sl (.pair i (.pair i .unit)))) (.cons (.fn 71 .nil) .nil)), (.cons .flat i .nil)⟩
theorem it_slices_IndexFunc_etchhouse_api_Point_etchhouse_api_Point_of_drill_checkPoints_1 : InTab Try.prog I_slices_IndexFunc_etchhouse_api_Point_etchhouse_api_Point_of_drill_checkPoints_1 := ⟨Try.func88, by kernel_rfl, rfl⟩
noncomputable def T_slices_IndexFunc_etchhouse_api_Point_etchhouse_api_Point_of_drill_checkPoints_1 : Nat → Entry Try.prog := nth (Entry.no Try.f0) [E_drill_checkPoints_1]
noncomputable def B_slices_IndexFunc_etchhouse_api_Point_etchhouse_api_Point_of_drill_checkPoints_1 (n : Nat) (x0 : List (Int × (Int × Unit))) (x1 : Unit) : Option (((Int × Unit) × (Unit × (Unit × Unit)))) :=
  loopN (fun rec1 => fun
  | ((v1aa, ()), ()) =>
    (bif decide ((v1aa < ((x0.length : Nat) : Int))) then
      (bif inB v1aa x0.length then
        (bif (!(S_isPt (x0.getD v1aa.toNat (0, (0, ()))))) then
          some ((v1aa, ()), ((), ((), ())))
        else
          rec1 ((wrapI .i64 (v1aa + 1), ()), ()))
      else
        none)
    else
      some (((-1), ()), ((), ((), ())))))
  n ((0, ()), ())
theorem B_slices_IndexFunc_etchhouse_api_Point_etchhouse_api_Point_of_drill_checkPoints_1_eq (n : Nat) (x0 : List (Int × (Int × Unit))) (x1 : Unit) : bodyE ty T_slices_IndexFunc_etchhouse_api_Point_etchhouse_api_Point_of_drill_checkPoints_1 n I_slices_IndexFunc_etchhouse_api_Point_etchhouse_api_Point_of_drill_checkPoints_1 (x0, (x1, ())) = B_slices_IndexFunc_etchhouse_api_Point_etchhouse_api_Point_of_drill_checkPoints_1 n x0 x1 := by kernel_rfl

end Go.Proofs.Ytmhhodnackfhmaa
namespace Go.Proofs.Ytmhhodnackfhmaa
open Go Go.VM
def S_idxPt : List (Int × Int × Unit) → Nat → Int
  | [], _ => -1
  | a :: r, i => bif S_isPt a then S_idxPt r (i + 1) else (i : Int)
theorem idxPt_neg : ∀ (l : List (Int × Int × Unit)) (i : Nat), decide (0 ≤ S_idxPt l i) = !l.all S_isPt
  | [], i => by simp [S_idxPt]
  | a :: r, i => by
    have ih := idxPt_neg r (i + 1)
    by_cases h : S_isPt a = true
    · have : S_idxPt (a :: r) i = S_idxPt r (i + 1) := by simp only [S_idxPt, h, cond_true]
      rw [this, ih]; simp [h]
    · have h : S_isPt a = false := by simpa using h
      have : S_idxPt (a :: r) i = i := by simp only [S_idxPt, h, cond_false]
      rw [this]; simp [h]
theorem ok_slices_IndexFunc_etchhouse_api_Point_etchhouse_api_Point_of_drill_checkPoints_1 (x0 : List (Int × Int × Unit)) (hok : OkA I_slices_IndexFunc_etchhouse_api_Point_etchhouse_api_Point_of_drill_checkPoints_1.args (x0, (), ())) : ∃ n, bodyE ty T_slices_IndexFunc_etchhouse_api_Point_etchhouse_api_Point_of_drill_checkPoints_1 n I_slices_IndexFunc_etchhouse_api_Point_etchhouse_api_Point_of_drill_checkPoints_1 (x0, (), ()) = some ((S_idxPt x0 0, ()), ((), (), ())) := ⟨x0.length + 1, by
  obtain ⟨⟨hl, _⟩, _⟩ := hok
  rw [B_slices_IndexFunc_etchhouse_api_Point_etchhouse_api_Point_of_drill_checkPoints_1_eq]
  unfold B_slices_IndexFunc_etchhouse_api_Point_etchhouse_api_Point_of_drill_checkPoints_1
  refine (loop_list (l := x0) (fun i (_ : Unit) => ((i, ()), ())) (fun a i _ => bif S_isPt a then .inl () else .inr (some (((i : Int), ()), ((), (), ())))) (fun _ => some ((-1, ()), ((), (), ()))) (fun i h s rec => ?_) (fun s rec => ?_) (Nat.lt_succ_self _) ()).trans ?_
  · simp only [lt_nat h, inB_nat h, getD_lt h, succ64 h hl, cond_true]
    cases S_isPt x0[i] <;> rfl
  · simp only [lt_self, cond_false]
  · have : ∀ (l : List (Int × Int × Unit)) i, goL (fun a i (_ : Unit) => bif S_isPt a then .inl () else .inr (some (((i : Int), ()), ((), (), ())))) (fun _ => some ((-1, ()), ((), (), ()))) l i () = some ((S_idxPt l i, ()), ((), (), ())) := by
      intro l
      induction l with
      | nil => intro i; rfl
      | cons a r ih =>
        intro i
        simp only [goL, S_idxPt]
        cases S_isPt a with
        | true => simpa using ih (i + 1)
        | false => rfl
    exact this x0 0⟩
noncomputable def E_slices_IndexFunc_etchhouse_api_Point_etchhouse_api_Point_of_drill_checkPoints_1 : Entry Try.prog := Entry.of tok T_slices_IndexFunc_etchhouse_api_Point_etchhouse_api_Point_of_drill_checkPoints_1 I_slices_IndexFunc_etchhouse_api_Point_etchhouse_api_Point_of_drill_checkPoints_1 it_slices_IndexFunc_etchhouse_api_Point_etchhouse_api_Point_of_drill_checkPoints_1 (fun (x0, (), ()) => some ((S_idxPt x0 0, ()), ((), (), ()))) (fun (x0, (), ()) r hok h => by cases h; exact ok_slices_IndexFunc_etchhouse_api_Point_etchhouse_api_Point_of_drill_checkPoints_1 x0 hok)

end Go.Proofs.Ytmhhodnackfhmaa
namespace Go.Proofs.Ytmhhodnackfhmaa
open Go Go.VM
/-! ### slices.ContainsFunc[[]etchhouse.api.Point,etchhouse.api.Point] -/
noncomputable def I_slices_ContainsFunc_etchhouse_api_Point_etchhouse_api_Point_of_drill_checkPoints_1 : Inst := ⟨70, Try.f70, .two (.reg []) (.two (.reg [(2, 0)]) (.leaf)), (.cons (.pv (.sl (.pair i (.pair i .unit)))) (.cons (.fn 71 .nil) .nil)), (.cons .flat .bool .nil)⟩
theorem it_slices_ContainsFunc_etchhouse_api_Point_etchhouse_api_Point_of_drill_checkPoints_1 : InTab Try.prog I_slices_ContainsFunc_etchhouse_api_Point_etchhouse_api_Point_of_drill_checkPoints_1 := ⟨Try.func70, by kernel_rfl, rfl⟩
noncomputable def T_slices_ContainsFunc_etchhouse_api_Point_etchhouse_api_Point_of_drill_checkPoints_1 : Nat → Entry Try.prog := nth (Entry.no Try.f0) [E_slices_IndexFunc_etchhouse_api_Point_etchhouse_api_Point_of_drill_checkPoints_1]
noncomputable def B_slices_ContainsFunc_etchhouse_api_Point_etchhouse_api_Point_of_drill_checkPoints_1 (x0 : List (Int × (Int × Unit))) (x1 : Unit) : Option (((Bool × Unit) × (Unit × (Unit × Unit)))) :=
  some ((decide ((0 ≤ S_idxPt x0 0)), ()), ((), ((), ())))
theorem B_slices_ContainsFunc_etchhouse_api_Point_etchhouse_api_Point_of_drill_checkPoints_1_eq (n : Nat) (x0 : List (Int × (Int × Unit))) (x1 : Unit) : bodyE ty T_slices_ContainsFunc_etchhouse_api_Point_etchhouse_api_Point_of_drill_checkPoints_1 n I_slices_ContainsFunc_etchhouse_api_Point_etchhouse_api_Point_of_drill_checkPoints_1 (x0, (x1, ())) = B_slices_ContainsFunc_etchhouse_api_Point_etchhouse_api_Point_of_drill_checkPoints_1 x0 x1 := by kernel_rfl

end Go.Proofs.Ytmhhodnackfhmaa
namespace Go.Proofs.Ytmhhodnackfhmaa
open Go Go.VM
noncomputable def E_slices_ContainsFunc_etchhouse_api_Point_etchhouse_api_Point_of_drill_checkPoints_1 : Entry Try.prog := Entry.of tok T_slices_ContainsFunc_etchhouse_api_Point_etchhouse_api_Point_of_drill_checkPoints_1 I_slices_ContainsFunc_etchhouse_api_Point_etchhouse_api_Point_of_drill_checkPoints_1 it_slices_ContainsFunc_etchhouse_api_Point_etchhouse_api_Point_of_drill_checkPoints_1 (fun x => B_slices_ContainsFunc_etchhouse_api_Point_etchhouse_api_Point_of_drill_checkPoints_1 x.1 x.2.1) (fun (a0, a1, ()) r _ h => ⟨0, (B_slices_ContainsFunc_etchhouse_api_Point_etchhouse_api_Point_of_drill_checkPoints_1_eq 0 a0 a1).trans h⟩)

end Go.Proofs.Ytmhhodnackfhmaa
namespace Go.Proofs.Ytmhhodnackfhmaa
open Go Go.VM
/-! ### etchhouse.drill.checkPoints -/
noncomputable def I_drill_checkPoints : Inst := ⟨56, Try.f56, .two (.reg []) (.two (.two (.reg []) (.two (.two (.reg []) (.leaf)) (.leaf))) (.two (.two (.reg [(1, 0), (5, 1)]) (.two (.two (.reg []) (.leaf)) (.leaf))) (.two (.reg []) (.leaf)))), (.cons (.pv (.sl (.pair i (.pair i .unit)))) (.cons (.pv (.pair i (.pair i .unit))) (.cons (.pv i) .nil))), (.cons .flat i .nil)⟩
theorem it_drill_checkPoints : InTab Try.prog I_drill_checkPoints := ⟨Try.func56, by kernel_rfl, rfl⟩
noncomputable def T_drill_checkPoints : Nat → Entry Try.prog := nth (Entry.no Try.f0) [E_shape_IsPoint, E_slices_ContainsFunc_etchhouse_api_Point_etchhouse_api_Point_of_drill_checkPoints_1]
noncomputable def B_drill_checkPoints (x0 : List (Int × (Int × Unit))) (x1 : (Int × (Int × Unit))) (x2 : Int) : Option (((Int × Unit) × (Unit × (Unit × (Unit × Unit))))) :=
  (bif decide ((x2 < ((x0.length : Nat) : Int))) then
    some ((2, ()), ((), ((), ((), ()))))
  else
    (bif (!(S_isPt x1)) then
      some ((1, ()), ((), ((), ((), ()))))
    else
      ((B_slices_ContainsFunc_etchhouse_api_Point_etchhouse_api_Point_of_drill_checkPoints_1 x0 ()).bind fun ((r1aa, ()), ((), ((), ()))) =>
      (bif r1aa then
        some ((1, ()), ((), ((), ((), ()))))
      else
        some ((0, ()), ((), ((), ((), ()))))))))
theorem B_drill_checkPoints_eq (n : Nat) (x0 : List (Int × (Int × Unit))) (x1 : (Int × (Int × Unit))) (x2 : Int) : bodyE ty T_drill_checkPoints n I_drill_checkPoints (x0, (x1, (x2, ()))) = B_drill_checkPoints x0 x1 x2 := by kernel_rfl

end Go.Proofs.Ytmhhodnackfhmaa
namespace Go.Proofs.Ytmhhodnackfhmaa
open Go Go.VM
def S_chk (l : List Pt) (p : Pt) (most : Int) : Int := bif decide (most < (l.length : Int)) then 2 else bif S_isPt p && l.all S_isPt then 0 else 1
theorem ok_drill_checkPoints (x0 : List Pt) (x1 : Pt) (x2 : Int) (hok : OkA I_drill_checkPoints.args (x0, x1, x2, ())) : ∃ n, bodyE ty T_drill_checkPoints n I_drill_checkPoints (x0, x1, x2, ()) = some ((S_chk x0 x1 x2, ()), ((), (), (), ())) := ⟨0, by
  rw [B_drill_checkPoints_eq]
  unfold B_drill_checkPoints S_chk
  cases decide (x2 < (x0.length : Int)) with
  | true => rfl
  | false =>
    cases S_isPt x1 with
    | false => rfl
    | true =>
      have : B_slices_ContainsFunc_etchhouse_api_Point_etchhouse_api_Point_of_drill_checkPoints_1 x0 () = some ((!x0.all S_isPt, ()), ((), ((), ()))) := by
        unfold B_slices_ContainsFunc_etchhouse_api_Point_etchhouse_api_Point_of_drill_checkPoints_1
        rw [idxPt_neg]
      simp only [cond_false, Bool.not_true, this, Option.bind_some, Bool.true_and]
      cases x0.all S_isPt <;> rfl⟩
noncomputable def E_drill_checkPoints : Entry Try.prog := Entry.of tok T_drill_checkPoints I_drill_checkPoints it_drill_checkPoints (fun (x0, x1, x2, ()) => some ((S_chk x0 x1 x2, ()), ((), (), (), ()))) (fun (x0, x1, x2, ()) r hok h => by cases h; exact ok_drill_checkPoints x0 x1 x2 hok)

end Go.Proofs.Ytmhhodnackfhmaa
namespace Go.Proofs.Ytmhhodnackfhmaa
open Go Go.VM
/-! ### etchhouse.drill.apart -/
noncomputable def I_drill_apart : Inst := ⟨74, Try.f74, .two (.reg []) (.two (.reg []) (.leaf)), (.cons (.pv i) (.cons (.pv i) .nil)), (.cons .flat i .nil)⟩
theorem it_drill_apart : InTab Try.prog I_drill_apart := ⟨Try.func74, by kernel_rfl, rfl⟩
noncomputable def T_drill_apart : Nat → Entry Try.prog := nth (Entry.no Try.f0) []
noncomputable def B_drill_apart (x0 : Int) (x1 : Int) : Option (((Int × Unit) × (Unit × (Unit × Unit)))) :=
  some (((bif decide ((wrapI .i64 (x0 - x1) < wrapI .i64 (x1 - x0))) then wrapI .i64 (x1 - x0) else wrapI .i64 (x0 - x1)), ()), ((), ((), ())))
theorem B_drill_apart_eq (n : Nat) (x0 : Int) (x1 : Int) : bodyE ty T_drill_apart n I_drill_apart (x0, (x1, ())) = B_drill_apart x0 x1 := by kernel_rfl

end Go.Proofs.Ytmhhodnackfhmaa
namespace Go.Proofs.Ytmhhodnackfhmaa
open Go Go.VM
def S_apart (a b : Int) : Int := bif decide (wrapI .i64 (a - b) < wrapI .i64 (b - a)) then wrapI .i64 (b - a) else wrapI .i64 (a - b)
theorem ok_drill_apart (x0 x1 : Int) (hok : OkA I_drill_apart.args (x0, x1, ())) : ∃ n, bodyE ty T_drill_apart n I_drill_apart (x0, x1, ()) = some ((S_apart x0 x1, ()), ((), (), ())) := ⟨0, by rw [B_drill_apart_eq]; rfl⟩
noncomputable def E_drill_apart : Entry Try.prog := Entry.of tok T_drill_apart I_drill_apart it_drill_apart (fun (x0, x1, ()) => some ((S_apart x0 x1, ()), ((), (), ()))) (fun (x0, x1, ()) r hok h => by cases h; exact ok_drill_apart x0 x1 hok)

end Go.Proofs.Ytmhhodnackfhmaa
namespace Go.Proofs.Ytmhhodnackfhmaa
open Go Go.VM
/-! ### etchhouse.drill.far -/
noncomputable def I_drill_far : Inst := ⟨62, Try.f62, .two (.reg []) (.two (.draw [(4, 0), (9, 0)] [0, 1, 2, 3, 5, 6, 7, 8, 4, 9, 10, 11] [3, 2]) (.leaf)), (.cons (.pv (.pair i (.pair i .unit))) (.cons (.pv (.pair i (.pair i .unit))) .nil)), (.cons .flat i .nil)⟩
theorem it_drill_far : InTab Try.prog I_drill_far := ⟨Try.func62, by kernel_rfl, rfl⟩
noncomputable def T_drill_far : Nat → Entry Try.prog := nth (Entry.no Try.f0) [E_drill_apart]
noncomputable def B_drill_far (x0 : (Int × (Int × Unit))) (x1 : (Int × (Int × Unit))) : Option (((Int × Unit) × (Unit × (Unit × Unit)))) :=
  some (((bif decide ((S_apart x0.1 x1.1 < S_apart x0.2.1 x1.2.1)) then S_apart x0.2.1 x1.2.1 else S_apart x0.1 x1.1), ()), ((), ((), ())))
theorem B_drill_far_eq (n : Nat) (x0 : (Int × (Int × Unit))) (x1 : (Int × (Int × Unit))) : bodyE ty T_drill_far n I_drill_far (x0, (x1, ())) = B_drill_far x0 x1 := by kernel_rfl

end Go.Proofs.Ytmhhodnackfhmaa
namespace Go.Proofs.Ytmhhodnackfhmaa
open Go Go.VM
def S_far (p q : Pt) : Int := bif decide (S_apart p.1 q.1 < S_apart p.2.1 q.2.1) then S_apart p.2.1 q.2.1 else S_apart p.1 q.1
theorem ok_drill_far (x0 x1 : Pt) (hok : OkA I_drill_far.args (x0, x1, ())) : ∃ n, bodyE ty T_drill_far n I_drill_far (x0, x1, ()) = some ((S_far x0 x1, ()), ((), (), ())) := ⟨0, by rw [B_drill_far_eq]; rfl⟩
noncomputable def E_drill_far : Entry Try.prog := Entry.of tok T_drill_far I_drill_far it_drill_far (fun (x0, x1, ()) => some ((S_far x0 x1, ()), ((), (), ()))) (fun (x0, x1, ()) r hok h => by cases h; exact ok_drill_far x0 x1 hok)

end Go.Proofs.Ytmhhodnackfhmaa
namespace Go.Proofs.Ytmhhodnackfhmaa
open Go Go.VM
/-! ### etchhouse.drill.way -/
noncomputable def I_drill_way : Inst := ⟨43, Try.f43, .two (.reg []) (.two (.reg []) (.two (.two (.reg []) (.one (.loop ⟨[(5, .pv i), (10, .pv i)], [(3, ⟨.flat, (.pair i (.pair i .unit)), true, false⟩)], [3, 8, 9], []⟩ (.two (.reg []) (.two (.two (.leaf) (.leaf)) (.two (.one (.two (.reg []) (.two (.reg [(3, 0)]) (.reg [])))) (.reg []))))))) (.two (.reg []) (.leaf)))), (.cons (.pv (.sl (.pair i (.pair i .unit)))) (.cons (.pv (.pair i (.pair i .unit))) .nil)), (.cons .flat i .nil)⟩
theorem it_drill_way : InTab Try.prog I_drill_way := ⟨Try.func43, by kernel_rfl, rfl⟩
noncomputable def T_drill_way : Nat → Entry Try.prog := nth (Entry.no Try.f0) [E_drill_far]
noncomputable def B_drill_way (n : Nat) (x0 : List (Int × (Int × Unit))) (x1 : (Int × (Int × Unit))) : Option (((Int × Unit) × (Unit × (Unit × Unit)))) :=
  loopN (fun rec1 => fun
  | ((v1aa, (v1aba, ())), ((v1baa, (v1baba, ())), ())) =>
    (bif decide ((v1aba < ((x0.length : Nat) : Int))) then
      (bif inB v1aba x0.length then
        rec1 ((wrapI .i64 (v1aa + S_far (v1baa, (v1baba, ())) (x0.getD v1aba.toNat (0, (0, ())))), (wrapI .i64 (v1aba + 1), ())), (x0.getD v1aba.toNat (0, (0, ())), ()))
      else
        none)
    else
      some ((v1aa, ()), ((), ((), ())))))
  n ((0, (0, ())), (x1, ()))
theorem B_drill_way_eq (n : Nat) (x0 : List (Int × (Int × Unit))) (x1 : (Int × (Int × Unit))) : bodyE ty T_drill_way n I_drill_way (x0, (x1, ())) = B_drill_way n x0 x1 := by kernel_rfl

end Go.Proofs.Ytmhhodnackfhmaa
namespace Go.Proofs.Ytmhhodnackfhmaa
open Go Go.VM
theorem ok_drill_way (x0 : List Pt) (x1 : Pt) (hok : OkA I_drill_way.args (x0, x1, ())) : ∃ n, bodyE ty T_drill_way n I_drill_way (x0, x1, ()) = some ((S_way S_far x0 x1, ()), ((), (), ())) := ⟨x0.length + 1, by
  obtain ⟨⟨hl, _⟩, _⟩ := hok
  rw [B_drill_way_eq]
  unfold B_drill_way
  refine (loop_fold (l := x0) (fun i (s : Int × Pt) => ((s.1, (i, ())), (s.2, ()))) (fun _ _ => True) (wayF S_far) (fun s => some ((s.1, ()), ((), (), ()))) (fun i h s _ => ?_) (fun s _ rec => ?_) (Nat.lt_succ_self _) (s := (0, x1)) trivial)
  · obtain ⟨s, a, b, ⟨⟩⟩ := s
    exact ⟨trivial, fun rec => by simp only [lt_nat h, inB_nat h, getD_lt h, succ64 h hl, cond_true]; rfl⟩
  · obtain ⟨s, a, b, ⟨⟩⟩ := s
    simp only [lt_self, cond_false]⟩
noncomputable def E_drill_way : Entry Try.prog := Entry.of tok T_drill_way I_drill_way it_drill_way (fun (x0, x1, ()) => some ((S_way S_far x0 x1, ()), ((), (), ()))) (fun (x0, x1, ()) r hok h => by cases h; exact ok_drill_way x0 x1 hok)

end Go.Proofs.Ytmhhodnackfhmaa
namespace Go.Proofs.Ytmhhodnackfhmaa
open Go Go.VM
/-! ### etchhouse.drill.Way -/
noncomputable def I_drill_Way : Inst := ⟨35, Try.f35, .two (.reg []) (.two (.two (.reg [(2, 0)]) (.two (.reg []) (.two (.two (.reg []) (.leaf)) (.leaf)))) (.two (.reg [(2, 1)]) (.leaf))), (.cons (.pv (.sl (.pair i (.pair i .unit)))) (.cons (.pv (.pair i (.pair i .unit))) .nil)), (.cons .flat i (.cons .flat i .nil))⟩
theorem it_drill_Way : InTab Try.prog I_drill_Way := ⟨Try.func35, by kernel_rfl, rfl⟩
noncomputable def T_drill_Way : Nat → Entry Try.prog := nth (Entry.no Try.f0) [E_drill_checkPoints, E_drill_way]
noncomputable def B_drill_Way (x0 : List (Int × (Int × Unit))) (x1 : (Int × (Int × Unit))) : Option (((Int × (Int × Unit)) × (Unit × (Unit × Unit)))) :=
  (bif (!(decide ((S_chk x0 x1 2000 = 0)))) then
    some ((0, (S_chk x0 x1 2000, ())), ((), ((), ())))
  else
    some ((S_way S_far x0 x1, (0, ())), ((), ((), ()))))
theorem B_drill_Way_eq (n : Nat) (x0 : List (Int × (Int × Unit))) (x1 : (Int × (Int × Unit))) : bodyE ty T_drill_Way n I_drill_Way (x0, (x1, ())) = B_drill_Way x0 x1 := by kernel_rfl

end Go.Proofs.Ytmhhodnackfhmaa
namespace Go.Proofs.Ytmhhodnackfhmaa
open Go Go.VM
def S_WayP (x0 : List Pt) (x1 : Pt) : Int × Int := bif decide (S_chk x0 x1 2000 = 0) then (S_way S_far x0 x1, 0) else (0, S_chk x0 x1 2000)
theorem ok_drill_Way (x0 : List Pt) (x1 : Pt) (hok : OkA I_drill_Way.args (x0, x1, ())) : ∃ n, bodyE ty T_drill_Way n I_drill_Way (x0, x1, ()) = some (((S_WayP x0 x1).1, (S_WayP x0 x1).2, ()), ((), (), ())) := ⟨0, by
  rw [B_drill_Way_eq]
  unfold B_drill_Way S_WayP
  cases decide (S_chk x0 x1 2000 = 0) <;> rfl⟩
noncomputable def E_drill_Way : Entry Try.prog := Entry.of tok T_drill_Way I_drill_Way it_drill_Way (fun (x0, x1, ()) => some (((S_WayP x0 x1).1, (S_WayP x0 x1).2, ()), ((), (), ()))) (fun (x0, x1, ()) r hok h => by cases h; exact ok_drill_Way x0 x1 hok)

end Go.Proofs.Ytmhhodnackfhmaa
namespace Go.Proofs.Ytmhhodnackfhmaa
open Go Go.VM
/-! ### etchhouse.etchhouselaw8.awake -/
noncomputable def I_etchhouselaw8_awake : Inst := ⟨11, Try.f11, .two (.reg []) (.two (.reg [(5, 0)]) (.two (.reg []) (.leaf))), .nil, (.cons .flat .bool .nil)⟩
theorem it_etchhouselaw8_awake : InTab Try.prog I_etchhouselaw8_awake := ⟨Try.func11, by kernel_rfl, rfl⟩
noncomputable def T_etchhouselaw8_awake : Nat → Entry Try.prog := nth (Entry.no Try.f0) [E_drill_Way]
noncomputable def B_etchhouselaw8_awake  : Option (((Bool × Unit) × Unit)) :=
  some ((true, ()), ())
theorem B_etchhouselaw8_awake_eq (n : Nat)  : bodyE ty T_etchhouselaw8_awake n I_etchhouselaw8_awake () = B_etchhouselaw8_awake  := by kernel_rfl

end Go.Proofs.Ytmhhodnackfhmaa
namespace Go.Proofs.Ytmhhodnackfhmaa
open Go Go.VM
def S_etchhouselaw8_awake  : Bool := true
theorem ok_etchhouselaw8_awake  (hok : OkA I_etchhouselaw8_awake.args ()) : ∃ n, bodyE ty T_etchhouselaw8_awake n I_etchhouselaw8_awake () = some ((S_etchhouselaw8_awake, ()), ()) := ⟨0, by rw [B_etchhouselaw8_awake_eq]; rfl⟩
noncomputable def E_etchhouselaw8_awake : Entry Try.prog := Entry.of tok T_etchhouselaw8_awake I_etchhouselaw8_awake it_etchhouselaw8_awake (fun () => some ((S_etchhouselaw8_awake, ()), ())) (fun () r hok h => by cases h; exact ok_etchhouselaw8_awake  hok)

end Go.Proofs.Ytmhhodnackfhmaa
namespace Go.Proofs.Ytmhhodnackfhmaa
open Go Go.VM
/-! ### etchhouse.etchhouseref8.All -/
noncomputable def I_etchhouseref8_All : Inst := ⟨26, Try.f26, .two (.reg []) (.two (.reg []) (.two (.two (.reg []) (.one (.loop ⟨[(3, .st (.at (.rf 3 []))), (8, .pv i)], [(3, ⟨(.own .flat), (.sl (.pair (.pair i (.pair i .unit)) (.pair i (.pair i (.pair .bool .unit))))), false, false⟩)], [6, 7], []⟩ (.two (.reg []) (.two (.two (.leaf) (.leaf)) (.two (.one (.two (.reg []) (.reg []))) (.reg []))))))) (.two (.reg []) (.leaf)))), (.cons (.pv (.sl (.pair .str (.pair (.sl (.pair (.pair i (.pair i .unit)) (.pair i (.pair i (.pair .bool .unit))))) .unit)))) .nil), (.cons (.own .flat) (.sl (.pair (.pair i (.pair i .unit)) (.pair i (.pair i (.pair .bool .unit))))) .nil)⟩
theorem it_etchhouseref8_All : InTab Try.prog I_etchhouseref8_All := ⟨Try.func26, by kernel_rfl, rfl⟩
noncomputable def T_etchhouseref8_All : Nat → Entry Try.prog := nth (Entry.no Try.f0) []
noncomputable def B_etchhouseref8_All (n : Nat) (x0 : List (ByteArray × (List ((Int × (Int × Unit)) × (Int × (Int × (Bool × Unit)))) × Unit))) : Option (((List ((Int × (Int × Unit)) × (Int × (Int × (Bool × Unit)))) × Unit) × (Unit × Unit))) :=
  loopN (fun rec1 => fun
  | ((v1aa, ()), (v1ba, ())) =>
    (bif decide ((v1aa < ((x0.length : Nat) : Int))) then
      (bif inB v1aa x0.length then
        (bif decide (((v1ba.length + (((x0.getD v1aa.toNat ((strOf []), ([], ()))).2).1).length) ≤ 4294967296)) then
          rec1 ((wrapI .i64 (v1aa + 1), ()), ((v1ba ++ ((x0.getD v1aa.toNat ((strOf []), ([], ()))).2).1), ()))
        else
          none)
      else
        none)
    else
      some ((v1ba, ()), ((), ()))))
  n ((0, ()), ([], ()))
theorem B_etchhouseref8_All_eq (n : Nat) (x0 : List (ByteArray × (List ((Int × (Int × Unit)) × (Int × (Int × (Bool × Unit)))) × Unit))) : bodyE ty T_etchhouseref8_All n I_etchhouseref8_All (x0, ()) = B_etchhouseref8_All n x0 := by kernel_rfl

end Go.Proofs.Ytmhhodnackfhmaa
namespace Go.Proofs.Ytmhhodnackfhmaa
open Go Go.VM
def S_allO (x0 : List Job) : Option ((List Hole × Unit) × Unit × Unit) := bif decide (holesN x0 ≤ 4294967296) then some ((S_allH x0, ()), ((), ())) else none
theorem ok_etchhouseref8_All (x0 : List Job) (hok : OkA I_etchhouseref8_All.args (x0, ())) (r) (h : S_allO x0 = some r) : ∃ n, bodyE ty T_etchhouseref8_All n I_etchhouseref8_All (x0, ()) = some r := ⟨x0.length + 1, by
  have hl : x0.length ≤ maxLen := hok.1.1
  rw [B_etchhouseref8_All_eq, ← h]
  unfold S_allO at h ⊢
  cases hd : decide (holesN x0 ≤ 4294967296) with
  | false => rw [hd] at h; cases h
  | true =>
  have hd := of_decide_eq_true hd
  have mono : ∀ (j : List Job) (i : Nat), holesN (j.take i) ≤ holesN j := by
    intro j
    induction j with
    | nil => intro i; simp
    | cons x r ih =>
      intro i
      cases i with
      | zero => simp [holesN]
      | succ i => simp only [List.take_succ_cons, holesN]; have := ih i; omega
  have step : ∀ (j : List Job) (i : Nat) (h : i < j.length), holesN (j.take (i + 1)) = holesN (j.take i) + j[i].2.1.length := by
    intro j
    induction j with
    | nil => intro i h; cases h
    | cons x r ih =>
      intro i h
      cases i with
      | zero => simp [holesN]
      | succ i =>
        have := ih i (by simpa using h)
        simp only [List.take_succ_cons, holesN, List.getElem_cons_succ]
        omega
  have fold : ∀ (j : List Job) (i : Nat) (o : List Hole), foldI (fun (x : Job) _ o => o ++ x.2.1) j i o = o ++ allH j := by
    intro j
    induction j with
    | nil => intro i o; simp [foldI, allH]
    | cons x r ih => intro i o; simp only [foldI, allH, ih, List.append_assoc]
  unfold B_etchhouseref8_All
  refine (loop_fold (l := x0) (fun i (o : List Hole) => ((i, ()), (o, ()))) (fun i o => o.length = holesN (x0.take i)) (fun x _ o => o ++ x.2.1) (fun o => some ((o, ()), ((), ()))) (fun i h o hI => ⟨?_, fun rec => ?_⟩) (fun o _ rec => by simp only [lt_self, cond_false]) (Nat.lt_succ_self _) (s := []) rfl).trans ?_
  · rw [List.length_append, hI, step x0 i h]
  · have h1 := step x0 i h
    have h2 := mono x0 (i + 1)
    have c3 : decide (o.length + x0[i].2.1.length ≤ 4294967296) = true := decide_eq_true (by omega)
    simp only [lt_nat h, inB_nat h, getD_at h, succ64 h hl, cond_true, Int.toNat_natCast, c3]
  · rw [fold, List.nil_append]; rfl⟩
noncomputable def E_etchhouseref8_All : Entry Try.prog := Entry.of tok T_etchhouseref8_All I_etchhouseref8_All it_etchhouseref8_All (fun (x0, ()) => S_allO x0) (fun (x0, ()) r hok h => ok_etchhouseref8_All x0 hok r h)

end Go.Proofs.Ytmhhodnackfhmaa
namespace Go.Proofs.Ytmhhodnackfhmaa
open Go Go.VM
/-! ### etchhouse.etchhouseref8.many -/
noncomputable def I_etchhouseref8_many : Inst := ⟨51, Try.f51, .two (.reg []) (.two (.reg []) (.two (.two (.reg []) (.one (.loop ⟨[(5, .pv i), (10, .pv i)], [], [3, 8, 9], [3]⟩ (.two (.reg []) (.two (.two (.leaf) (.leaf)) (.two (.one (.two (.reg []) (.two (.reg []) (.two (.reg []) (.leaf))))) (.reg []))))))) (.two (.reg []) (.leaf)))), (.cons (.pv (.sl (.pair (.pair i (.pair i .unit)) (.pair i (.pair i (.pair .bool .unit)))))) (.cons (.pv (.pair (.pair i (.pair i .unit)) (.pair i (.pair i (.pair .bool .unit))))) .nil)), (.cons .flat i .nil)⟩
theorem it_etchhouseref8_many : InTab Try.prog I_etchhouseref8_many := ⟨Try.func51, by kernel_rfl, rfl⟩
noncomputable def T_etchhouseref8_many : Nat → Entry Try.prog := nth (Entry.no Try.f0) []
noncomputable def B_etchhouseref8_many (n : Nat) (x0 : List ((Int × (Int × Unit)) × (Int × (Int × (Bool × Unit))))) (x1 : ((Int × (Int × Unit)) × (Int × (Int × (Bool × Unit))))) : Option (((Int × Unit) × (Unit × (Unit × Unit)))) :=
  loopN (fun rec1 => fun
  | ((v1aa, (v1aba, ())), ()) =>
    (bif decide ((v1aba < ((x0.length : Nat) : Int))) then
      (bif inB v1aba x0.length then
        (bif Ty.eqv (.pair (.pair (.int .i64) (.pair (.int .i64) .unit)) (.pair (.int .i64) (.pair (.int .i64) (.pair .bool .unit)))) (x0.getD v1aba.toNat ((0, (0, ())), (0, (0, (false, ()))))) x1 then
          rec1 ((wrapI .i64 (v1aa + 1), (wrapI .i64 (v1aba + 1), ())), ())
        else
          rec1 ((v1aa, (wrapI .i64 (v1aba + 1), ())), ()))
      else
        none)
    else
      some ((v1aa, ()), ((), ((), ())))))
  n ((0, (0, ())), ())
theorem B_etchhouseref8_many_eq (n : Nat) (x0 : List ((Int × (Int × Unit)) × (Int × (Int × (Bool × Unit))))) (x1 : ((Int × (Int × Unit)) × (Int × (Int × (Bool × Unit))))) : bodyE ty T_etchhouseref8_many n I_etchhouseref8_many (x0, (x1, ())) = B_etchhouseref8_many n x0 x1 := by kernel_rfl

end Go.Proofs.Ytmhhodnackfhmaa
namespace Go.Proofs.Ytmhhodnackfhmaa
open Go Go.VM
theorem ok_etchhouseref8_many (x0 : List Hole) (x1 : Hole) (hok : OkA I_etchhouseref8_many.args (x0, x1, ())) : ∃ n, bodyE ty T_etchhouseref8_many n I_etchhouseref8_many (x0, x1, ()) = some ((S_many x0 x1, ()), ((), (), ())) := ⟨x0.length + 1, by
  have hl : x0.length ≤ maxLen := hok.1.1
  rw [B_etchhouseref8_many_eq]
  unfold B_etchhouseref8_many
  rw [← many_eq hl]
  refine (loop_fold (l := x0) (fun i (n : Int) => ((n, (i, ())), ())) (fun _ _ => True) (manyF x1) (fun n => some ((n, ()), ((), (), ()))) (fun i h n _ => ⟨trivial, fun rec => ?_⟩) (fun n _ rec => by simp only [lt_self, cond_false]) (Nat.lt_succ_self _) (s := 0) trivial)
  simp only [lt_nat h, inB_nat h, getD_at h, succ64 h hl, cond_true, Int.toNat_natCast]
  change (bif Ty.eqv holeTy x0[i] x1 then _ else _) = _
  rw [eqHole]
  unfold manyF
  cases decide (x0[i] = x1) <;> rfl⟩
noncomputable def E_etchhouseref8_many : Entry Try.prog := Entry.of tok T_etchhouseref8_many I_etchhouseref8_many it_etchhouseref8_many (fun (x0, x1, ()) => some ((S_many x0 x1, ()), ((), (), ()))) (fun (x0, x1, ()) r hok h => by cases h; exact ok_etchhouseref8_many x0 x1 hok)

end Go.Proofs.Ytmhhodnackfhmaa
namespace Go.Proofs.Ytmhhodnackfhmaa
open Go Go.VM
/-! ### etchhouse.etchhouseref8.SameHoles -/
noncomputable def I_etchhouseref8_SameHoles : Inst := ⟨27, Try.f27, .two (.reg []) (.two (.two (.reg []) (.one (.loop ⟨[(9, .pv i)], [], [0, 1, 7, 8], []⟩ (.two (.reg []) (.two (.two (.leaf) (.leaf)) (.two (.one (.two (.reg []) (.two (.draw [(2, 0), (5, 0)] [0, 1, 3, 4, 2, 5, 6] [6]) (.two (.two (.reg []) (.leaf)) (.leaf))))) (.reg []))))))) (.two (.reg []) (.leaf))), (.cons (.pv (.sl (.pair (.pair i (.pair i .unit)) (.pair i (.pair i (.pair .bool .unit)))))) (.cons (.pv (.sl (.pair (.pair i (.pair i .unit)) (.pair i (.pair i (.pair .bool .unit)))))) .nil)), (.cons .flat .bool .nil)⟩
theorem it_etchhouseref8_SameHoles : InTab Try.prog I_etchhouseref8_SameHoles := ⟨Try.func27, by kernel_rfl, rfl⟩
noncomputable def T_etchhouseref8_SameHoles : Nat → Entry Try.prog := nth (Entry.no Try.f0) [E_etchhouseref8_many]
noncomputable def B_etchhouseref8_SameHoles (n : Nat) (x0 : List ((Int × (Int × Unit)) × (Int × (Int × (Bool × Unit))))) (x1 : List ((Int × (Int × Unit)) × (Int × (Int × (Bool × Unit))))) : Option (((Bool × Unit) × (Unit × (Unit × Unit)))) :=
  loopN (fun rec1 => fun
  | ((v1aa, ()), ()) =>
    (bif decide ((v1aa < ((x0.length : Nat) : Int))) then
      (bif inB v1aa x0.length then
        (bif (!(decide ((S_many x0 (x0.getD v1aa.toNat ((0, (0, ())), (0, (0, (false, ()))))) = S_many x1 (x0.getD v1aa.toNat ((0, (0, ())), (0, (0, (false, ()))))))))) then
          some ((false, ()), ((), ((), ())))
        else
          rec1 ((wrapI .i64 (v1aa + 1), ()), ()))
      else
        none)
    else
      some ((decide ((((x0.length : Nat) : Int) = ((x1.length : Nat) : Int))), ()), ((), ((), ())))))
  n ((0, ()), ())
theorem B_etchhouseref8_SameHoles_eq (n : Nat) (x0 : List ((Int × (Int × Unit)) × (Int × (Int × (Bool × Unit))))) (x1 : List ((Int × (Int × Unit)) × (Int × (Int × (Bool × Unit))))) : bodyE ty T_etchhouseref8_SameHoles n I_etchhouseref8_SameHoles (x0, (x1, ())) = B_etchhouseref8_SameHoles n x0 x1 := by kernel_rfl

end Go.Proofs.Ytmhhodnackfhmaa
namespace Go.Proofs.Ytmhhodnackfhmaa
open Go Go.VM
theorem ok_etchhouseref8_SameHoles (x0 x1 : List Hole) (hok : OkA I_etchhouseref8_SameHoles.args (x0, x1, ())) : ∃ n, bodyE ty T_etchhouseref8_SameHoles n I_etchhouseref8_SameHoles (x0, x1, ()) = some ((S_sameH x0 x1, ()), ((), (), ())) := ⟨x0.length + 1, by
  have hl : x0.length ≤ maxLen := hok.1.1
  rw [B_etchhouseref8_SameHoles_eq]
  unfold B_etchhouseref8_SameHoles S_sameH
  refine (loop_list (l := x0) (fun i (_ : Unit) => ((i, ()), ())) (fun x i _ => bif decide (sameHC x0 x1 x i = 0) then .inl () else .inr (some ((false, ()), ((), (), ())))) (fun _ => some ((decide ((x0.length : Int) = (x1.length : Int)), ()), ((), (), ()))) (fun i h s rec => ?_) (fun s rec => by simp only [lt_self, cond_false]) (Nat.lt_succ_self _) ()).trans ?_
  · simp only [lt_nat h, inB_nat h, getD_at h, succ64 h hl, cond_true, Int.toNat_natCast]
    unfold sameHC
    cases decide (S_many x0 x0[i] = S_many x1 x0[i]) <;> rfl
  · rw [first_go (f := sameHC x0 x1) (R := fun _ => some ((false, ()), ((), (), ())))]
    cases decide (firstC (sameHC x0 x1) x0 0 = 0) <;> rfl⟩
noncomputable def E_etchhouseref8_SameHoles : Entry Try.prog := Entry.of tok T_etchhouseref8_SameHoles I_etchhouseref8_SameHoles it_etchhouseref8_SameHoles (fun (x0, x1, ()) => some ((S_sameH x0 x1, ()), ((), (), ()))) (fun (x0, x1, ()) r hok h => by cases h; exact ok_etchhouseref8_SameHoles x0 x1 hok)

end Go.Proofs.Ytmhhodnackfhmaa
namespace Go.Proofs.Ytmhhodnackfhmaa
open Go Go.VM
noncomputable def I_bytealg_abigen_runtime_cmpstring : Inst := ⟨89, Try.f89, .leaf, pvs [.str, .str], .cons .flat (.int .i64) .nil⟩
noncomputable def E_bytealg_abigen_runtime_cmpstring : Entry Try.prog := Entry.ext I_bytealg_abigen_runtime_cmpstring cmpF (ext_cmp Try.func89 (by kernel_rfl) rfl (by kernel_rfl) (by kernel_rfl))

end Go.Proofs.Ytmhhodnackfhmaa
namespace Go.Proofs.Ytmhhodnackfhmaa
open Go Go.VM
/-! ### internal.bytealg.CompareString -/
noncomputable def I_bytealg_CompareString : Inst := ⟨75, Try.f75, .two (.reg []) (.two (.reg [(2, 0)]) (.leaf)), (.cons (.pv .str) (.cons (.pv .str) .nil)), (.cons .flat i .nil)⟩
theorem it_bytealg_CompareString : InTab Try.prog I_bytealg_CompareString := ⟨Try.func75, by kernel_rfl, rfl⟩
noncomputable def T_bytealg_CompareString : Nat → Entry Try.prog := nth (Entry.no Try.f0) [E_bytealg_abigen_runtime_cmpstring]
noncomputable def B_bytealg_CompareString (x0 : ByteArray) (x1 : ByteArray) : Option (((Int × Unit) × (Unit × (Unit × Unit)))) :=
  some ((S_cmps x0 x1, ()), ((), ((), ())))
theorem B_bytealg_CompareString_eq (n : Nat) (x0 : ByteArray) (x1 : ByteArray) : bodyE ty T_bytealg_CompareString n I_bytealg_CompareString (x0, (x1, ())) = B_bytealg_CompareString x0 x1 := by kernel_rfl

end Go.Proofs.Ytmhhodnackfhmaa
namespace Go.Proofs.Ytmhhodnackfhmaa
open Go Go.VM
def S_bytealg_CompareString (x0 : ByteArray) (x1 : ByteArray) : Int := S_cmps x0 x1
theorem ok_bytealg_CompareString (x0 : ByteArray) (x1 : ByteArray) (hok : OkA I_bytealg_CompareString.args (x0, x1, ())) : ∃ n, bodyE ty T_bytealg_CompareString n I_bytealg_CompareString (x0, x1, ()) = some (((S_bytealg_CompareString x0 x1), ()), ((), (), ())) := ⟨0, by rw [B_bytealg_CompareString_eq]; rfl⟩
noncomputable def E_bytealg_CompareString : Entry Try.prog := Entry.of tok T_bytealg_CompareString I_bytealg_CompareString it_bytealg_CompareString (fun (x0, x1, ()) => some (((S_bytealg_CompareString x0 x1), ()), ((), (), ()))) (fun (x0, x1, ()) r hok h => by cases h; exact ok_bytealg_CompareString x0 x1 hok)

end Go.Proofs.Ytmhhodnackfhmaa
namespace Go.Proofs.Ytmhhodnackfhmaa
open Go Go.VM
/-! ### strings.Compare -/
noncomputable def I_strings_Compare : Inst := ⟨65, Try.f65, .two (.reg []) (.two (.reg [(2, 0)]) (.leaf)), (.cons (.pv .str) (.cons (.pv .str) .nil)), (.cons .flat i .nil)⟩
theorem it_strings_Compare : InTab Try.prog I_strings_Compare := ⟨Try.func65, by kernel_rfl, rfl⟩
noncomputable def T_strings_Compare : Nat → Entry Try.prog := nth (Entry.no Try.f0) [E_bytealg_CompareString]
noncomputable def B_strings_Compare (x0 : ByteArray) (x1 : ByteArray) : Option (((Int × Unit) × (Unit × (Unit × Unit)))) :=
  some ((S_bytealg_CompareString x0 x1, ()), ((), ((), ())))
theorem B_strings_Compare_eq (n : Nat) (x0 : ByteArray) (x1 : ByteArray) : bodyE ty T_strings_Compare n I_strings_Compare (x0, (x1, ())) = B_strings_Compare x0 x1 := by kernel_rfl

end Go.Proofs.Ytmhhodnackfhmaa
namespace Go.Proofs.Ytmhhodnackfhmaa
open Go Go.VM
def S_strings_Compare (x0 : ByteArray) (x1 : ByteArray) : Int := S_bytealg_CompareString x0 x1
theorem ok_strings_Compare (x0 : ByteArray) (x1 : ByteArray) (hok : OkA I_strings_Compare.args (x0, x1, ())) : ∃ n, bodyE ty T_strings_Compare n I_strings_Compare (x0, x1, ()) = some (((S_strings_Compare x0 x1), ()), ((), (), ())) := ⟨0, by rw [B_strings_Compare_eq]; rfl⟩
noncomputable def E_strings_Compare : Entry Try.prog := Entry.of tok T_strings_Compare I_strings_Compare it_strings_Compare (fun (x0, x1, ()) => some (((S_strings_Compare x0 x1), ()), ((), (), ()))) (fun (x0, x1, ()) r hok h => by cases h; exact ok_strings_Compare x0 x1 hok)

end Go.Proofs.Ytmhhodnackfhmaa
namespace Go.Proofs.Ytmhhodnackfhmaa
open Go Go.VM
/-! ### etchhouse.drill.toolAt$1 -/
noncomputable def I_drill_toolAt_1 : Inst := ⟨64, Try.f64, .two (.reg []) (.two (.reg [(3, 0)]) (.leaf)), (.cons (.pv (.pair .str (.pair i (.pair i (.pair i .unit))))) (.cons (.pv .str) .nil)), (.cons .flat i .nil)⟩
theorem it_drill_toolAt_1 : InTab Try.prog I_drill_toolAt_1 := ⟨Try.func64, by kernel_rfl, rfl⟩
noncomputable def T_drill_toolAt_1 : Nat → Entry Try.prog := nth (Entry.no Try.f0) [E_strings_Compare]
noncomputable def B_drill_toolAt_1 (x0 : (ByteArray × (Int × (Int × (Int × Unit))))) (x1 : ByteArray) : Option (((Int × Unit) × (Unit × (Unit × Unit)))) :=
  some ((S_strings_Compare x0.1 x1, ()), ((), ((), ())))
theorem B_drill_toolAt_1_eq (n : Nat) (x0 : (ByteArray × (Int × (Int × (Int × Unit))))) (x1 : ByteArray) : bodyE ty T_drill_toolAt_1 n I_drill_toolAt_1 (x0, (x1, ())) = B_drill_toolAt_1 x0 x1 := by kernel_rfl

end Go.Proofs.Ytmhhodnackfhmaa
namespace Go.Proofs.Ytmhhodnackfhmaa
open Go Go.VM
def S_drill_toolAt_1 (x0 : (ByteArray × (Int × (Int × (Int × Unit))))) (x1 : ByteArray) : Int := S_strings_Compare x0.1 x1
theorem ok_drill_toolAt_1 (x0 : (ByteArray × (Int × (Int × (Int × Unit))))) (x1 : ByteArray) (hok : OkA I_drill_toolAt_1.args (x0, x1, ())) : ∃ n, bodyE ty T_drill_toolAt_1 n I_drill_toolAt_1 (x0, x1, ()) = some (((S_drill_toolAt_1 x0 x1), ()), ((), (), ())) := ⟨0, by rw [B_drill_toolAt_1_eq]; rfl⟩
noncomputable def E_drill_toolAt_1 : Entry Try.prog := Entry.of tok T_drill_toolAt_1 I_drill_toolAt_1 it_drill_toolAt_1 (fun (x0, x1, ()) => some (((S_drill_toolAt_1 x0 x1), ()), ((), (), ()))) (fun (x0, x1, ()) r hok h => by cases h; exact ok_drill_toolAt_1 x0 x1 hok)

end Go.Proofs.Ytmhhodnackfhmaa
namespace Go.Proofs.Ytmhhodnackfhmaa
open Go Go.VM
/-! ### slices.BinarySearchFunc[[]etchhouse.api.Bit,etchhouse.api.Bit,string] -/
noncomputable def I_slices_BinarySearchFunc_etchhouse_api_Bit_etchhouse_api_Bit_string_of_drill_toolAt_1 : Inst := ⟨63, Try.f63, .two (.reg []) (.two (.reg []) (.two (.reg []) (.two (.one (.loop ⟨[(9, .pv i), (10, .pv i)], [], [0, 1, 2, 8], []⟩ (.two (.two (.reg []) (.two (.leaf) (.leaf))) (.one (.two (.reg []) (.two (.reg [(6, 0)]) (.two (.reg []) (.reg [])))))))) (.two (.reg [(11, 0)]) (.leaf))))), (.cons (.pv (.sl (.pair .str (.pair i (.pair i (.pair i .unit)))))) (.cons (.pv .str) (.cons (.fn 64 .nil) .nil))), (.cons .flat i (.cons .flat .bool .nil))⟩
theorem it_slices_BinarySearchFunc_etchhouse_api_Bit_etchhouse_api_Bit_string_of_drill_toolAt_1 : InTab Try.prog I_slices_BinarySearchFunc_etchhouse_api_Bit_etchhouse_api_Bit_string_of_drill_toolAt_1 := ⟨Try.func63, by kernel_rfl, rfl⟩
noncomputable def T_slices_BinarySearchFunc_etchhouse_api_Bit_etchhouse_api_Bit_string_of_drill_toolAt_1 : Nat → Entry Try.prog := nth (Entry.no Try.f0) [E_drill_toolAt_1]
noncomputable def B_slices_BinarySearchFunc_etchhouse_api_Bit_etchhouse_api_Bit_string_of_drill_toolAt_1 (n : Nat) (x0 : List (ByteArray × (Int × (Int × (Int × Unit))))) (x1 : ByteArray) (x2 : Unit) : Option (((Int × (Bool × Unit)) × (Unit × (Unit × (Unit × Unit))))) :=
  loopN (fun rec1 => fun
  | ((v1aa, (v1aba, ())), ()) =>
    (bif decide ((v1aa < v1aba)) then
      (bif inB (wrapI .i64 (Int.fdiv (wrapI .u64 (wrapI .i64 (v1aa + v1aba))) 2)) x0.length then
        (bif decide ((S_drill_toolAt_1 (x0.getD ((wrapI .i64 (Int.fdiv (wrapI .u64 (wrapI .i64 (v1aa + v1aba))) 2)).toNat) ((strOf []), (0, (0, (0, ()))))) x1 < 0)) then
          rec1 ((wrapI .i64 (wrapI .i64 (Int.fdiv (wrapI .u64 (wrapI .i64 (v1aa + v1aba))) 2) + 1), (v1aba, ())), ())
        else
          rec1 ((v1aa, (wrapI .i64 (Int.fdiv (wrapI .u64 (wrapI .i64 (v1aa + v1aba))) 2), ())), ()))
      else
        none)
    else
      (bif decide ((v1aa < ((x0.length : Nat) : Int))) then
        (bif inB v1aa x0.length then
          some ((v1aa, (decide ((S_drill_toolAt_1 (x0.getD v1aa.toNat ((strOf []), (0, (0, (0, ()))))) x1 = 0)), ())), ((), ((), ((), ()))))
        else
          none)
      else
        some ((v1aa, (false, ())), ((), ((), ((), ())))))))
  n ((0, (((x0.length : Nat) : Int), ())), ())
theorem B_slices_BinarySearchFunc_etchhouse_api_Bit_etchhouse_api_Bit_string_of_drill_toolAt_1_eq (n : Nat) (x0 : List (ByteArray × (Int × (Int × (Int × Unit))))) (x1 : ByteArray) (x2 : Unit) : bodyE ty T_slices_BinarySearchFunc_etchhouse_api_Bit_etchhouse_api_Bit_string_of_drill_toolAt_1 n I_slices_BinarySearchFunc_etchhouse_api_Bit_etchhouse_api_Bit_string_of_drill_toolAt_1 (x0, (x1, (x2, ()))) = B_slices_BinarySearchFunc_etchhouse_api_Bit_etchhouse_api_Bit_string_of_drill_toolAt_1 n x0 x1 x2 := by kernel_rfl

end Go.Proofs.Ytmhhodnackfhmaa
namespace Go.Proofs.Ytmhhodnackfhmaa
open Go Go.VM
def S_slices_BinarySearchFunc_etchhouse_api_Bit_etchhouse_api_Bit_string_of_drill_toolAt_1_i (x0 : List (ByteArray × (Int × (Int × (Int × Unit))))) (x1 : ByteArray) (x2 : Unit) : Int := ((bsI (fun a : (ByteArray × (Int × (Int × (Int × Unit)))) => S_drill_toolAt_1 a x1) x0 ((strOf []), (0, (0, (0, ())))) : Nat) : Int)
def S_slices_BinarySearchFunc_etchhouse_api_Bit_etchhouse_api_Bit_string_of_drill_toolAt_1_f (x0 : List (ByteArray × (Int × (Int × (Int × Unit))))) (x1 : ByteArray) (x2 : Unit) : Bool := bsF (fun a : (ByteArray × (Int × (Int × (Int × Unit)))) => S_drill_toolAt_1 a x1) x0 ((strOf []), (0, (0, (0, ()))))
theorem ok_slices_BinarySearchFunc_etchhouse_api_Bit_etchhouse_api_Bit_string_of_drill_toolAt_1 (x0 : List (ByteArray × (Int × (Int × (Int × Unit))))) (x1 : ByteArray) (x2 : Unit) (hok : OkA I_slices_BinarySearchFunc_etchhouse_api_Bit_etchhouse_api_Bit_string_of_drill_toolAt_1.args (x0, x1, x2, ())) : ∃ n, bodyE ty T_slices_BinarySearchFunc_etchhouse_api_Bit_etchhouse_api_Bit_string_of_drill_toolAt_1 n I_slices_BinarySearchFunc_etchhouse_api_Bit_etchhouse_api_Bit_string_of_drill_toolAt_1 (x0, x1, x2, ()) = some ((S_slices_BinarySearchFunc_etchhouse_api_Bit_etchhouse_api_Bit_string_of_drill_toolAt_1_i x0 x1 x2, S_slices_BinarySearchFunc_etchhouse_api_Bit_etchhouse_api_Bit_string_of_drill_toolAt_1_f x0 x1 x2, ()), ((), (), (), ())) := ⟨x0.length + 1, by
  have hl : x0.length ≤ maxLen := hok.1.1
  rw [B_slices_BinarySearchFunc_etchhouse_api_Bit_etchhouse_api_Bit_string_of_drill_toolAt_1_eq]
  unfold B_slices_BinarySearchFunc_etchhouse_api_Bit_etchhouse_api_Bit_string_of_drill_toolAt_1 S_slices_BinarySearchFunc_etchhouse_api_Bit_etchhouse_api_Bit_string_of_drill_toolAt_1_i S_slices_BinarySearchFunc_etchhouse_api_Bit_etchhouse_api_Bit_string_of_drill_toolAt_1_f
  exact bs_loop (fun a : (ByteArray × (Int × (Int × (Int × Unit)))) => S_drill_toolAt_1 a x1) (R := fun a b => ((a, b, ()), ((), (), (), ()))) hl (Nat.lt_succ_self _)⟩
noncomputable def E_slices_BinarySearchFunc_etchhouse_api_Bit_etchhouse_api_Bit_string_of_drill_toolAt_1 : Entry Try.prog := Entry.of tok T_slices_BinarySearchFunc_etchhouse_api_Bit_etchhouse_api_Bit_string_of_drill_toolAt_1 I_slices_BinarySearchFunc_etchhouse_api_Bit_etchhouse_api_Bit_string_of_drill_toolAt_1 it_slices_BinarySearchFunc_etchhouse_api_Bit_etchhouse_api_Bit_string_of_drill_toolAt_1 (fun (x0, x1, x2, ()) => some ((S_slices_BinarySearchFunc_etchhouse_api_Bit_etchhouse_api_Bit_string_of_drill_toolAt_1_i x0 x1 x2, S_slices_BinarySearchFunc_etchhouse_api_Bit_etchhouse_api_Bit_string_of_drill_toolAt_1_f x0 x1 x2, ()), ((), (), (), ()))) (fun (x0, x1, x2, ()) r hok h => by cases h; exact ok_slices_BinarySearchFunc_etchhouse_api_Bit_etchhouse_api_Bit_string_of_drill_toolAt_1 x0 x1 x2 hok)

end Go.Proofs.Ytmhhodnackfhmaa
namespace Go.Proofs.Ytmhhodnackfhmaa
open Go Go.VM
/-! ### etchhouse.drill.toolAt -/
noncomputable def I_drill_toolAt : Inst := ⟨45, Try.f45, .two (.reg []) (.two (.reg [(2, 0)]) (.two (.two (.reg []) (.two (.two (.reg []) (.leaf)) (.leaf))) (.two (.reg []) (.leaf)))), (.cons (.pv (.sl (.pair .str (.pair i (.pair i (.pair i .unit)))))) (.cons (.pv .str) .nil)), (.cons .flat (.pair .str (.pair i (.pair i (.pair i .unit)))) (.cons .flat .bool .nil))⟩
theorem it_drill_toolAt : InTab Try.prog I_drill_toolAt := ⟨Try.func45, by kernel_rfl, rfl⟩
noncomputable def T_drill_toolAt : Nat → Entry Try.prog := nth (Entry.no Try.f0) [E_slices_BinarySearchFunc_etchhouse_api_Bit_etchhouse_api_Bit_string_of_drill_toolAt_1]
noncomputable def B_drill_toolAt (x0 : List (ByteArray × (Int × (Int × (Int × Unit))))) (x1 : ByteArray) : Option ((((ByteArray × (Int × (Int × (Int × Unit)))) × (Bool × Unit)) × (Unit × (Unit × Unit)))) :=
  (bif (!(S_slices_BinarySearchFunc_etchhouse_api_Bit_etchhouse_api_Bit_string_of_drill_toolAt_1_f x0 x1 ())) then
    some ((((strOf []), (0, (0, (0, ())))), (false, ())), ((), ((), ())))
  else
    (bif inB (S_slices_BinarySearchFunc_etchhouse_api_Bit_etchhouse_api_Bit_string_of_drill_toolAt_1_i x0 x1 ()) x0.length then
      some ((x0.getD ((S_slices_BinarySearchFunc_etchhouse_api_Bit_etchhouse_api_Bit_string_of_drill_toolAt_1_i x0 x1 ()).toNat) ((strOf []), (0, (0, (0, ())))), (true, ())), ((), ((), ())))
    else
      none))
theorem B_drill_toolAt_eq (n : Nat) (x0 : List (ByteArray × (Int × (Int × (Int × Unit))))) (x1 : ByteArray) : bodyE ty T_drill_toolAt n I_drill_toolAt (x0, (x1, ())) = B_drill_toolAt x0 x1 := by kernel_rfl

end Go.Proofs.Ytmhhodnackfhmaa
namespace Go.Proofs.Ytmhhodnackfhmaa
open Go Go.VM
theorem ok_drill_toolAt (x0 : List Mat) (x1 : ByteArray) (hok : OkA I_drill_toolAt.args (x0, x1, ())) : ∃ n, bodyE ty T_drill_toolAt n I_drill_toolAt (x0, x1, ()) = some ((S_matP x0 x1, S_there x0 x1, ()), ((), (), ())) := ⟨0, by
  rw [B_drill_toolAt_eq]
  unfold B_drill_toolAt S_matP
  change (bif !S_there x0 x1 then _ else bif inB ((bsI (fun a : Mat => S_cmps a.1 x1) x0 mat0 : Nat) : Int) x0.length then _ else _) = _
  cases h : S_there x0 x1 with
  | false => rfl
  | true =>
    have hb : bsI (fun a : Mat => S_cmps a.1 x1) x0 mat0 < x0.length := by
      simp only [S_there, bsF, Bool.and_eq_true, decide_eq_true_eq] at h
      exact h.1
    rw [inB_nat hb]
    rfl⟩
noncomputable def E_drill_toolAt : Entry Try.prog := Entry.of tok T_drill_toolAt I_drill_toolAt it_drill_toolAt (fun (x0, x1, ()) => some ((S_matP x0 x1, S_there x0 x1, ()), ((), (), ()))) (fun (x0, x1, ()) r hok h => by cases h; exact ok_drill_toolAt x0 x1 hok)

end Go.Proofs.Ytmhhodnackfhmaa
namespace Go.Proofs.Ytmhhodnackfhmaa
open Go Go.VM
/-! ### etchhouse.drill.CheckJobs$1 -/
noncomputable def I_drill_CheckJobs_1_io : Inst := ⟨47, Try.f47, .two (.reg []) (.two (.reg []) (.leaf)), (.cons (.pv (.pair .str (.pair (.sl (.pair (.pair i (.pair i .unit)) (.pair i (.pair i (.pair .bool .unit))))) .unit))) (.cons (.io .flat (.pair .str (.pair (.sl (.pair (.pair i (.pair i .unit)) (.pair i (.pair i (.pair .bool .unit))))) .unit))) .nil)), (.cons .flat .bool .nil)⟩
theorem it_drill_CheckJobs_1_io : InTab Try.prog I_drill_CheckJobs_1_io := ⟨Try.func47, by kernel_rfl, rfl⟩
noncomputable def T_drill_CheckJobs_1_io : Nat → Entry Try.prog := nth (Entry.no Try.f0) []
noncomputable def B_drill_CheckJobs_1_io (x0 : (ByteArray × (List ((Int × (Int × Unit)) × (Int × (Int × (Bool × Unit)))) × Unit))) (x1 : (ByteArray × (List ((Int × (Int × Unit)) × (Int × (Int × (Bool × Unit)))) × Unit))) : Option (((Bool × Unit) × (Unit × ((ByteArray × (List ((Int × (Int × Unit)) × (Int × (Int × (Bool × Unit)))) × Unit)) × Unit)))) :=
  some ((decide ((ByteArray.toList x0.1 = ByteArray.toList x1.1)), ()), ((), (x1, ())))
theorem B_drill_CheckJobs_1_io_eq (n : Nat) (x0 : (ByteArray × (List ((Int × (Int × Unit)) × (Int × (Int × (Bool × Unit)))) × Unit))) (x1 : (ByteArray × (List ((Int × (Int × Unit)) × (Int × (Int × (Bool × Unit)))) × Unit))) : bodyE ty T_drill_CheckJobs_1_io n I_drill_CheckJobs_1_io (x0, (x1, ())) = B_drill_CheckJobs_1_io x0 x1 := by kernel_rfl

end Go.Proofs.Ytmhhodnackfhmaa
namespace Go.Proofs.Ytmhhodnackfhmaa
open Go Go.VM
noncomputable def E_drill_CheckJobs_1_io : Entry Try.prog := Entry.of tok T_drill_CheckJobs_1_io I_drill_CheckJobs_1_io it_drill_CheckJobs_1_io (fun x => B_drill_CheckJobs_1_io x.1 x.2.1) (fun (a0, a1, ()) r _ h => ⟨0, (B_drill_CheckJobs_1_io_eq 0 a0 a1).trans h⟩)

end Go.Proofs.Ytmhhodnackfhmaa
namespace Go.Proofs.Ytmhhodnackfhmaa
open Go Go.VM
/-! ### slices.IndexFunc[[]etchhouse.api.Job,etchhouse.api.Job] -/
noncomputable def I_slices_IndexFunc_etchhouse_api_Job_etchhouse_api_Job_of_drill_CheckJobs_1 : Inst := ⟨66, Try.f66, .two (.reg []) (.two (.two (.reg []) (.one (.loop ⟨[(8, .pv i)], [(1010, ⟨.flat, (.pair .str (.pair (.sl (.pair (.pair i (.pair i .unit)) (.pair i (.pair i (.pair .bool .unit))))) .unit)), true, true⟩)], [0, 1, 7], []⟩ (.two (.reg []) (.two (.two (.leaf) (.leaf)) (.two (.one (.two (.reg []) (.two (.reg [(5, 0)]) (.two (.two (.reg []) (.leaf)) (.leaf))))) (.reg []))))))) (.two (.reg []) (.leaf))), (.cons (.pv (.sl (.pair .str (.pair (.sl (.pair (.pair i (.pair i .unit)) (.pair i (.pair i (.pair .bool .unit))))) .unit)))) (.cons (.fn 47 (.cons (.io .flat (.pair .str (.pair (.sl (.pair (.pair i (.pair i .unit)) (.pair i (.pair i (.pair .bool .unit))))) .unit))) .nil)) .nil)), (.cons .flat i .nil)⟩
theorem it_slices_IndexFunc_etchhouse_api_Job_etchhouse_api_Job_of_drill_CheckJobs_1 : InTab Try.prog I_slices_IndexFunc_etchhouse_api_Job_etchhouse_api_Job_of_drill_CheckJobs_1 := ⟨Try.func66, by kernel_rfl, rfl⟩
noncomputable def T_slices_IndexFunc_etchhouse_api_Job_etchhouse_api_Job_of_drill_CheckJobs_1 : Nat → Entry Try.prog := nth (Entry.no Try.f0) [E_drill_CheckJobs_1_io]
noncomputable def B_slices_IndexFunc_etchhouse_api_Job_etchhouse_api_Job_of_drill_CheckJobs_1 (n : Nat) (x0 : List (ByteArray × (List ((Int × (Int × Unit)) × (Int × (Int × (Bool × Unit)))) × Unit))) (x1 : ((ByteArray × (List ((Int × (Int × Unit)) × (Int × (Int × (Bool × Unit)))) × Unit)) × Unit)) : Option (((Int × Unit) × (Unit × (((ByteArray × (List ((Int × (Int × Unit)) × (Int × (Int × (Bool × Unit)))) × Unit)) × Unit) × Unit)))) :=
  loopN (fun rec1 => fun
  | ((v1aa, ()), ((v1baa, (v1baba, ())), ())) =>
    (bif decide ((v1aa < ((x0.length : Nat) : Int))) then
      (bif inB v1aa x0.length then
        ((B_drill_CheckJobs_1_io (x0.getD v1aa.toNat ((strOf []), ([], ()))) (v1baa, (v1baba, ()))).bind fun ((r2aa, ()), ((), ((r2bbaa, (r2bbaba, ())), ()))) =>
        (bif r2aa then
          some ((v1aa, ()), ((), (((r2bbaa, (r2bbaba, ())), ()), ())))
        else
          rec1 ((wrapI .i64 (v1aa + 1), ()), ((r2bbaa, (r2bbaba, ())), ()))))
      else
        none)
    else
      some (((-1), ()), ((), (((v1baa, (v1baba, ())), ()), ())))))
  n ((0, ()), (x1.1, ()))
theorem B_slices_IndexFunc_etchhouse_api_Job_etchhouse_api_Job_of_drill_CheckJobs_1_eq (n : Nat) (x0 : List (ByteArray × (List ((Int × (Int × Unit)) × (Int × (Int × (Bool × Unit)))) × Unit))) (x1 : ((ByteArray × (List ((Int × (Int × Unit)) × (Int × (Int × (Bool × Unit)))) × Unit)) × Unit)) : bodyE ty T_slices_IndexFunc_etchhouse_api_Job_etchhouse_api_Job_of_drill_CheckJobs_1 n I_slices_IndexFunc_etchhouse_api_Job_etchhouse_api_Job_of_drill_CheckJobs_1 (x0, (x1, ())) = B_slices_IndexFunc_etchhouse_api_Job_etchhouse_api_Job_of_drill_CheckJobs_1 n x0 x1 := by kernel_rfl

end Go.Proofs.Ytmhhodnackfhmaa
namespace Go.Proofs.Ytmhhodnackfhmaa
open Go Go.VM
def S_jobI (l : List Job) (x : Job) : Int := S_find (fun y : Job => decide (y.1 = x.1)) l
theorem ok_slices_IndexFunc_etchhouse_api_Job_etchhouse_api_Job_of_drill_CheckJobs_1 (x0 : List Job) (x1_0 : Job) (hok : OkA I_slices_IndexFunc_etchhouse_api_Job_etchhouse_api_Job_of_drill_CheckJobs_1.args (x0, (x1_0, ()), ())) : ∃ n, bodyE ty T_slices_IndexFunc_etchhouse_api_Job_etchhouse_api_Job_of_drill_CheckJobs_1 n I_slices_IndexFunc_etchhouse_api_Job_etchhouse_api_Job_of_drill_CheckJobs_1 (x0, (x1_0, ()), ()) = some ((S_jobI x0 x1_0, ()), ((), (x1_0, ()), ())) := ⟨x0.length + 1, by
  have hl : x0.length ≤ maxLen := hok.1.1
  rw [B_slices_IndexFunc_etchhouse_api_Job_etchhouse_api_Job_of_drill_CheckJobs_1_eq]
  unfold B_slices_IndexFunc_etchhouse_api_Job_etchhouse_api_Job_of_drill_CheckJobs_1 S_jobI
  obtain ⟨q, hs, ⟨⟩⟩ := x1_0
  refine (loop_list (l := x0) (fun i (_ : Unit) => ((i, ()), ((q, (hs, ())), ()))) (fun a i _ => bif (fun y : Job => decide (y.1 = q)) a then .inr (some (((i : Int), ()), ((), ((q, (hs, ())), ()), ()))) else .inl ()) (fun _ => some ((-1, ()), ((), ((q, (hs, ())), ()), ()))) (fun i h s rec => ?_) (fun s rec => by simp only [lt_self, cond_false]) (Nat.lt_succ_self _) ()).trans (find_go (R := fun a => ((a, ()), ((), ((q, (hs, ())), ()), ()))) x0 0)
  unfold B_drill_CheckJobs_1_io
  simp only [lt_nat h, inB_nat h, getD_lt h, succ64 h hl, cond_true, str_dec]
  cases decide (x0[i].1 = q) <;> rfl⟩
noncomputable def E_slices_IndexFunc_etchhouse_api_Job_etchhouse_api_Job_of_drill_CheckJobs_1 : Entry Try.prog := Entry.of tok T_slices_IndexFunc_etchhouse_api_Job_etchhouse_api_Job_of_drill_CheckJobs_1 I_slices_IndexFunc_etchhouse_api_Job_etchhouse_api_Job_of_drill_CheckJobs_1 it_slices_IndexFunc_etchhouse_api_Job_etchhouse_api_Job_of_drill_CheckJobs_1 (fun (x0, (x1_0, ()), ()) => some ((S_jobI x0 x1_0, ()), ((), (x1_0, ()), ()))) (fun (x0, (x1_0, ()), ()) r hok h => by cases h; exact ok_slices_IndexFunc_etchhouse_api_Job_etchhouse_api_Job_of_drill_CheckJobs_1 x0 x1_0 hok)

end Go.Proofs.Ytmhhodnackfhmaa
namespace Go.Proofs.Ytmhhodnackfhmaa
open Go Go.VM
/-! ### slices.ContainsFunc[[]etchhouse.api.Job,etchhouse.api.Job] -/
noncomputable def I_slices_ContainsFunc_etchhouse_api_Job_etchhouse_api_Job_of_drill_CheckJobs_1 : Inst := ⟨46, Try.f46, .two (.reg []) (.two (.reg [(2, 0)]) (.leaf)), (.cons (.pv (.sl (.pair .str (.pair (.sl (.pair (.pair i (.pair i .unit)) (.pair i (.pair i (.pair .bool .unit))))) .unit)))) (.cons (.fn 47 (.cons (.io .flat (.pair .str (.pair (.sl (.pair (.pair i (.pair i .unit)) (.pair i (.pair i (.pair .bool .unit))))) .unit))) .nil)) .nil)), (.cons .flat .bool .nil)⟩
theorem it_slices_ContainsFunc_etchhouse_api_Job_etchhouse_api_Job_of_drill_CheckJobs_1 : InTab Try.prog I_slices_ContainsFunc_etchhouse_api_Job_etchhouse_api_Job_of_drill_CheckJobs_1 := ⟨Try.func46, by kernel_rfl, rfl⟩
noncomputable def T_slices_ContainsFunc_etchhouse_api_Job_etchhouse_api_Job_of_drill_CheckJobs_1 : Nat → Entry Try.prog := nth (Entry.no Try.f0) [E_slices_IndexFunc_etchhouse_api_Job_etchhouse_api_Job_of_drill_CheckJobs_1]
noncomputable def B_slices_ContainsFunc_etchhouse_api_Job_etchhouse_api_Job_of_drill_CheckJobs_1 (x0 : List (ByteArray × (List ((Int × (Int × Unit)) × (Int × (Int × (Bool × Unit)))) × Unit))) (x1 : ((ByteArray × (List ((Int × (Int × Unit)) × (Int × (Int × (Bool × Unit)))) × Unit)) × Unit)) : Option (((Bool × Unit) × (Unit × (((ByteArray × (List ((Int × (Int × Unit)) × (Int × (Int × (Bool × Unit)))) × Unit)) × Unit) × Unit)))) :=
  some ((decide ((0 ≤ S_jobI x0 x1.1)), ()), ((), ((x1.1, ()), ())))
theorem B_slices_ContainsFunc_etchhouse_api_Job_etchhouse_api_Job_of_drill_CheckJobs_1_eq (n : Nat) (x0 : List (ByteArray × (List ((Int × (Int × Unit)) × (Int × (Int × (Bool × Unit)))) × Unit))) (x1 : ((ByteArray × (List ((Int × (Int × Unit)) × (Int × (Int × (Bool × Unit)))) × Unit)) × Unit)) : bodyE ty T_slices_ContainsFunc_etchhouse_api_Job_etchhouse_api_Job_of_drill_CheckJobs_1 n I_slices_ContainsFunc_etchhouse_api_Job_etchhouse_api_Job_of_drill_CheckJobs_1 (x0, (x1, ())) = B_slices_ContainsFunc_etchhouse_api_Job_etchhouse_api_Job_of_drill_CheckJobs_1 x0 x1 := by kernel_rfl

end Go.Proofs.Ytmhhodnackfhmaa
namespace Go.Proofs.Ytmhhodnackfhmaa
open Go Go.VM
noncomputable def E_slices_ContainsFunc_etchhouse_api_Job_etchhouse_api_Job_of_drill_CheckJobs_1 : Entry Try.prog := Entry.of tok T_slices_ContainsFunc_etchhouse_api_Job_etchhouse_api_Job_of_drill_CheckJobs_1 I_slices_ContainsFunc_etchhouse_api_Job_etchhouse_api_Job_of_drill_CheckJobs_1 it_slices_ContainsFunc_etchhouse_api_Job_etchhouse_api_Job_of_drill_CheckJobs_1 (fun x => B_slices_ContainsFunc_etchhouse_api_Job_etchhouse_api_Job_of_drill_CheckJobs_1 x.1 x.2.1) (fun (a0, a1, ()) r _ h => ⟨0, (B_slices_ContainsFunc_etchhouse_api_Job_etchhouse_api_Job_of_drill_CheckJobs_1_eq 0 a0 a1).trans h⟩)

end Go.Proofs.Ytmhhodnackfhmaa
namespace Go.Proofs.Ytmhhodnackfhmaa
open Go Go.VM
/-! ### etchhouse.drill.CheckJobs -/
noncomputable def I_drill_CheckJobs : Inst := ⟨22, Try.f22, .two (.reg []) (.two (.two (.reg [(1, 0)]) (.two (.reg []) (.two (.two (.reg []) (.leaf)) (.leaf)))) (.two (.two (.reg []) (.two (.two (.reg []) (.leaf)) (.leaf))) (.two (.reg []) (.two (.two (.reg []) (.one (.loop ⟨[(6, .pv i), (22, .pv i)], [], [0, 1, 20, 21], []⟩ (.two (.reg []) (.two (.two (.leaf) (.leaf)) (.two (.one (.two (.reg []) (.two (.two (.reg [(3, 1)]) (.two (.reg []) (.two (.two (.reg []) (.leaf)) (.leaf)))) (.two (.two (.reg [(4, 2)]) (.two (.two (.reg []) (.leaf)) (.leaf))) (.two (.two (.reg [(2, 3)]) (.two (.reg []) (.two (.two (.reg []) (.leaf)) (.leaf)))) (.reg [])))))) (.reg []))))))) (.two (.two (.reg []) (.two (.two (.reg []) (.leaf)) (.leaf))) (.two (.reg []) (.leaf))))))), (.cons (.pv (.sl (.pair .str (.pair i (.pair i (.pair i .unit)))))) (.cons (.pv (.sl (.pair .str (.pair (.sl (.pair (.pair i (.pair i .unit)) (.pair i (.pair i (.pair .bool .unit))))) .unit)))) .nil)), (.cons .flat i .nil)⟩
theorem it_drill_CheckJobs : InTab Try.prog I_drill_CheckJobs := ⟨Try.func22, by kernel_rfl, rfl⟩
noncomputable def T_drill_CheckJobs : Nat → Entry Try.prog := nth (Entry.no Try.f0) [E_drill_CheckTools, E_drill_toolAt, E_slices_ContainsFunc_etchhouse_api_Job_etchhouse_api_Job_of_drill_CheckJobs_1, E_drill_CheckHoles]
noncomputable def B_drill_CheckJobs (n : Nat) (x0 : List (ByteArray × (Int × (Int × (Int × Unit))))) (x1 : List (ByteArray × (List ((Int × (Int × Unit)) × (Int × (Int × (Bool × Unit)))) × Unit))) : Option (((Int × Unit) × (Unit × (Unit × Unit)))) :=
  (bif (!(decide ((S_chkT x0 = 0)))) then
    some ((S_chkT x0, ()), ((), ((), ())))
  else
    (bif decide ((100 < ((x1.length : Nat) : Int))) then
      some ((2, ()), ((), ((), ())))
    else
      loopN (fun rec1 => fun
      | ((v1aa, (v1aba, ())), ()) =>
        (bif decide ((v1aba < ((x1.length : Nat) : Int))) then
          (bif inB v1aba x1.length then
            (bif (!(S_there x0 ((x1.getD v1aba.toNat ((strOf []), ([], ()))).1))) then
              some ((9, ()), ((), ((), ())))
            else
              (bif (decide ((0 ≤ v1aba)) && decide ((v1aba ≤ ((x1.length : Nat) : Int)))) then
                ((B_slices_ContainsFunc_etchhouse_api_Job_etchhouse_api_Job_of_drill_CheckJobs_1 ((x1.drop 0).take (v1aba.toNat - 0)) (x1.getD v1aba.toNat ((strOf []), ([], ())), ())).bind fun ((r2aa, ()), ((), (((r2bbaaa, (r2bbaaba, ())), ()), ()))) =>
                (bif r2aa then
                  some ((7, ()), ((), ((), ())))
                else
                  (bif (!(decide ((S_chkH r2bbaaba = 0)))) then
                    some ((S_chkH r2bbaaba, ()), ((), ((), ())))
                  else
                    rec1 ((wrapI .i64 (v1aa + ((r2bbaaba.length : Nat) : Int)), (wrapI .i64 (v1aba + 1), ())), ()))))
              else
                none))
          else
            none)
        else
          (bif decide ((2000 < v1aa)) then
            some ((2, ()), ((), ((), ())))
          else
            some ((0, ()), ((), ((), ()))))))
      n ((0, (0, ())), ())))
theorem B_drill_CheckJobs_eq (n : Nat) (x0 : List (ByteArray × (Int × (Int × (Int × Unit))))) (x1 : List (ByteArray × (List ((Int × (Int × Unit)) × (Int × (Int × (Bool × Unit)))) × Unit))) : bodyE ty T_drill_CheckJobs n I_drill_CheckJobs (x0, (x1, ())) = B_drill_CheckJobs n x0 x1 := by kernel_rfl

end Go.Proofs.Ytmhhodnackfhmaa
namespace Go.Proofs.Ytmhhodnackfhmaa
open Go Go.VM
theorem chkH_le (l : List Hole) (h : S_chkH l = 0) : l.length ≤ 2000 := by
  unfold S_chkH at h
  cases hd : decide ((2000 : Int) < (l.length : Int)) with
  | true => rw [hd] at h; cases h
  | false => have := of_decide_eq_false hd; omega
theorem ok_drill_CheckJobs (x0 : List Mat) (x1 : List Job) (hok : OkA I_drill_CheckJobs.args (x0, x1, ())) : ∃ n, bodyE ty T_drill_CheckJobs n I_drill_CheckJobs (x0, x1, ()) = some ((S_chkJ S_chkH x0 x1, ()), ((), (), ())) := ⟨x1.length + 1, by
  have hl : x1.length ≤ maxLen := hok.2.1.1
  rw [B_drill_CheckJobs_eq]
  unfold B_drill_CheckJobs
  cases hT : decide (S_chkT x0 = 0) with
  | false => unfold S_chkJ; rw [hT]; rfl
  | true =>
  cases hj : decide ((100 : Int) < (x1.length : Int)) with
  | true => unfold S_chkJ; rw [hT, hj]; rfl
  | false =>
  have hT := of_decide_eq_true hT
  have hj := of_decide_eq_false hj
  simp only [Bool.not_true, cond_false]
  refine (loop_list (l := x1) (fun i (n : Int) => ((n, (i, ())), ())) (fun x i n => bif decide (jobC S_chkH x0 x1 x i = 0) then .inl (jobN x i n) else .inr (some ((jobC S_chkH x0 x1 x i, ()), ((), (), ())))) (fun n => bif decide ((2000 : Int) < n) then some ((2, ()), ((), (), ())) else some ((0, ()), ((), (), ()))) (fun i h n rec => ?_) (fun n rec => by simp only [lt_self, cond_false]) (Nat.lt_succ_self _) 0).trans (jobs_go chkH_le (by omega) hT (R := fun a => some ((a, ()), ((), (), ()))))
  have c1 : (decide ((0 : Int) ≤ (i : Int)) && decide ((i : Int) ≤ ((x1.length : Nat) : Int))) = true := by simp; omega
  simp only [lt_nat h, inB_nat h, getD_lt h, succ64 h hl, cond_true, (toolT_eq hT _).2, c1, Int.toNat_natCast, Nat.sub_zero, List.drop_zero, getD_at h]
  unfold jobC jobN
  cases decide (0 ≤ S_bitI x0 x1[i].1) with
  | false => rfl
  | true =>
    have e : decide (0 ≤ S_jobI (x1.take i) x1[i]) = (x1.take i).any (fun y => decide (y.1 = x1[i].1)) := find_any _
    simp only [Bool.not_true, cond_false]
    unfold B_slices_ContainsFunc_etchhouse_api_Job_etchhouse_api_Job_of_drill_CheckJobs_1
    simp only [Option.bind_some, e]
    cases (x1.take i).any (fun y => decide (y.1 = x1[i].1)) with
    | true => rfl
    | false =>
      simp only [cond_false]
      cases decide (S_chkH x1[i].2.1 = 0) <;> rfl⟩
noncomputable def E_drill_CheckJobs : Entry Try.prog := Entry.of tok T_drill_CheckJobs I_drill_CheckJobs it_drill_CheckJobs (fun (x0, x1, ()) => some ((S_chkJ S_chkH x0 x1, ()), ((), (), ()))) (fun (x0, x1, ()) r hok h => by cases h; exact ok_drill_CheckJobs x0 x1 hok)

end Go.Proofs.Ytmhhodnackfhmaa
namespace Go.Proofs.Ytmhhodnackfhmaa
open Go Go.VM
/-! ### etchhouse.etchhouselaw8.DrillChosenHasAll -/
noncomputable def I_etchhouselaw8_DrillChosenHasAll : Inst := ⟨8, Try.f8, .two (.reg []) (.two (.reg [(3, 0)]) (.two (.two (.reg []) (.two (.two (.reg [(9, 1)]) (.leaf)) (.leaf))) (.two (.reg [(1, 2)]) (.two (.two (.reg []) (.one (.loop ⟨[(10, .st (.at (.rf 10 []))), (44, .pv i)], [(10, ⟨(.own .flat), (.sl (.pair (.pair i (.pair i .unit)) (.pair i (.pair i (.pair .bool .unit))))), false, false⟩)], [0, 1, 2, 7, 42, 43], [7, 8]⟩ (.two (.reg []) (.two (.two (.leaf) (.leaf)) (.two (.one (.two (.reg []) (.two (.two (.reg []) (.two (.two (.reg []) (.leaf)) (.leaf))) (.reg [])))) (.reg []))))))) (.two (.two (.reg []) (.one (.loop ⟨[(66, .pv i)], [], [0, 1, 2, 7, 10, 64, 65], [7, 10]⟩ (.two (.reg []) (.two (.two (.leaf) (.leaf)) (.two (.one (.two (.reg []) (.two (.reg []) (.one (.loop ⟨[(72, .pv i)], [], [0, 1, 2, 7, 10, 14, 64, 65, 66, 70, 71], [7, 10, 14]⟩ (.two (.reg []) (.two (.two (.leaf) (.leaf)) (.two (.one (.two (.reg []) (.two (.reg []) (.one (.loop ⟨[(79, .pv i)], [], [0, 1, 2, 7, 10, 14, 16, 64, 65, 66, 70, 71, 72, 77, 78], [7, 10, 14, 16]⟩ (.two (.reg []) (.two (.two (.leaf) (.leaf)) (.two (.one (.two (.reg []) (.two (.reg []) (.two (.two (.reg []) (.leaf)) (.leaf))))) (.reg []))))))))) (.reg []))))))))) (.reg []))))))) (.two (.reg [(2, 3), (6, 4), (10, 1)]) (.leaf))))))), (.cons (.pv (.sl (.pair .str (.pair i (.pair i (.pair i .unit)))))) (.cons (.pv (.sl (.pair (.pair i (.pair i .unit)) (.pair i (.pair i (.pair .bool .unit)))))) (.cons (.pv i) .nil))), (.cons .flat .bool .nil)⟩
theorem it_etchhouselaw8_DrillChosenHasAll : InTab Try.prog I_etchhouselaw8_DrillChosenHasAll := ⟨Try.func8, by kernel_rfl, rfl⟩
noncomputable def T_etchhouselaw8_DrillChosenHasAll : Nat → Entry Try.prog := nth (Entry.no Try.f0) [E_drill_Chosen, E_etchhouselaw8_awake, E_etchhouseref8_All, E_etchhouseref8_SameHoles, E_drill_CheckJobs]
noncomputable def B_etchhouselaw8_DrillChosenHasAll (n : Nat) (x0 : List (ByteArray × (Int × (Int × (Int × Unit))))) (x1 : List ((Int × (Int × Unit)) × (Int × (Int × (Bool × Unit))))) (x2 : Int) : Option (((Bool × Unit) × (Unit × (Unit × (Unit × Unit))))) :=
  (bif (!(decide ((S_ChoF (S_chkH x1) x0 x2 = 0)))) then
    (bif decide (((((S_ChoJ (S_chkH x1) (fun a => S_toolP x0 a x2) x0 x1 x2).length : Nat) : Int) = 0)) then
      (bif decide (((((S_ChoN (S_chkH x1) (fun a => S_toolP x0 a x2) x0 x1 x2).length : Nat) : Int) = 0)) then
        some ((S_etchhouselaw8_awake, ()), ((), ((), ((), ()))))
      else
        some ((false, ()), ((), ((), ((), ())))))
    else
      some ((false, ()), ((), ((), ((), ())))))
  else
    ((S_allO (S_ChoJ (S_chkH x1) (fun a => S_toolP x0 a x2) x0 x1 x2)).bind fun ((r1aa, ()), ((), ())) =>
    loopN (fun rec2 => fun
    | ((v2aa, ()), (v2ba, ())) =>
      (bif decide ((v2aa < (((S_ChoN (S_chkH x1) (fun a => S_toolP x0 a x2) x0 x1 x2).length : Nat) : Int))) then
        (bif inB v2aa ((S_ChoN (S_chkH x1) (fun a => S_toolP x0 a x2) x0 x1 x2).length) then
          (bif decide (((S_ChoN (S_chkH x1) (fun a => S_toolP x0 a x2) x0 x1 x2).getD v2aa.toNat (0 : Int) < 0)) then
            some ((false, ()), ((), ((), ((), ()))))
          else
            (bif decide ((((x1.length : Nat) : Int) ≤ (S_ChoN (S_chkH x1) (fun a => S_toolP x0 a x2) x0 x1 x2).getD v2aa.toNat (0 : Int))) then
              some ((false, ()), ((), ((), ((), ()))))
            else
              (bif inB ((S_ChoN (S_chkH x1) (fun a => S_toolP x0 a x2) x0 x1 x2).getD v2aa.toNat (0 : Int)) x1.length then
                (bif decide (((v2ba.length + 1) ≤ 4294967296)) then
                  rec2 ((wrapI .i64 (v2aa + 1), ()), ((v2ba ++ [x1.getD (((S_ChoN (S_chkH x1) (fun a => S_toolP x0 a x2) x0 x1 x2).getD v2aa.toNat (0 : Int)).toNat) ((0, (0, ())), (0, (0, (false, ()))))]), ()))
                else
                  none)
              else
                none)))
        else
          none)
      else
        loopN (fun rec3 => fun
        | ((v3aa, ()), ()) =>
          (bif decide ((v3aa < (((S_ChoJ (S_chkH x1) (fun a => S_toolP x0 a x2) x0 x1 x2).length : Nat) : Int))) then
            (bif inB v3aa ((S_ChoJ (S_chkH x1) (fun a => S_toolP x0 a x2) x0 x1 x2).length) then
              loopN (fun rec4 => fun
              | ((v4aa, ()), ()) =>
                (bif decide ((v4aa < ((x0.length : Nat) : Int))) then
                  (bif inB v4aa x0.length then
                    loopN (fun rec5 => fun
                    | ((v5aa, ()), ()) =>
                      (bif decide ((v5aa < ((((((S_ChoJ (S_chkH x1) (fun a => S_toolP x0 a x2) x0 x1 x2).getD v3aa.toNat ((strOf []), ([], ()))).2).1).length : Nat) : Int))) then
                        (bif inB v5aa (((((S_ChoJ (S_chkH x1) (fun a => S_toolP x0 a x2) x0 x1 x2).getD v3aa.toNat ((strOf []), ([], ()))).2).1).length) then
                          (bif decide ((ByteArray.toList ((x0.getD v4aa.toNat ((strOf []), (0, (0, (0, ()))))).1) = ByteArray.toList (((S_ChoJ (S_chkH x1) (fun a => S_toolP x0 a x2) x0 x1 x2).getD v3aa.toNat ((strOf []), ([], ()))).1))) then
                            (bif decide ((((wrapI .i64 (((((((S_ChoJ (S_chkH x1) (fun a => S_toolP x0 a x2) x0 x1 x2).getD v3aa.toNat ((strOf []), ([], ()))).2).1).getD v5aa.toNat ((0, (0, ())), (0, (0, (false, ()))))).2).1 + x2)) : Int) < ((x0.getD v4aa.toNat ((strOf []), (0, (0, (0, ()))))).2).1)) then
                              some ((false, ()), ((), ((), ((), ()))))
                            else
                              (bif decide ((wrapI .i64 (((x0.getD v4aa.toNat ((strOf []), (0, (0, (0, ()))))).2).1 + x2) < ((((((S_ChoJ (S_chkH x1) (fun a => S_toolP x0 a x2) x0 x1 x2).getD v3aa.toNat ((strOf []), ([], ()))).2).1).getD v5aa.toNat ((0, (0, ())), (0, (0, (false, ()))))).2).1)) then
                                some ((false, ()), ((), ((), ((), ()))))
                              else
                                rec5 ((wrapI .i64 (v5aa + 1), ()), ())))
                          else
                            rec5 ((wrapI .i64 (v5aa + 1), ()), ()))
                        else
                          none)
                      else
                        rec4 ((wrapI .i64 (v4aa + 1), ()), ())))
                    n ((0, ()), ())
                  else
                    none)
                else
                  rec3 ((wrapI .i64 (v3aa + 1), ()), ())))
              n ((0, ()), ())
            else
              none)
          else
            (bif S_sameH v2ba x1 then
              (bif decide ((S_chkJ S_chkH x0 (S_ChoJ (S_chkH x1) (fun a => S_toolP x0 a x2) x0 x1 x2) = 0)) then
                some ((S_etchhouselaw8_awake, ()), ((), ((), ((), ()))))
              else
                some ((false, ()), ((), ((), ((), ())))))
            else
              some ((false, ()), ((), ((), ((), ())))))))
        n ((0, ()), ())))
    n ((0, ()), (r1aa, ()))))
theorem B_etchhouselaw8_DrillChosenHasAll_eq (n : Nat) (x0 : List (ByteArray × (Int × (Int × (Int × Unit))))) (x1 : List ((Int × (Int × Unit)) × (Int × (Int × (Bool × Unit))))) (x2 : Int) : bodyE ty T_etchhouselaw8_DrillChosenHasAll n I_etchhouselaw8_DrillChosenHasAll (x0, (x1, (x2, ()))) = B_etchhouselaw8_DrillChosenHasAll n x0 x1 x2 := by kernel_rfl

end Go.Proofs.Ytmhhodnackfhmaa
namespace Go.Proofs.Ytmhhodnackfhmaa
open Go Go.VM
set_option maxRecDepth 100000 in
theorem ok_etchhouselaw8_DrillChosenHasAll (x0 : List Mat) (x1 : List Hole) (x2 : Int) (hok : OkA I_etchhouselaw8_DrillChosenHasAll.args (x0, x1, x2, ())) : ∃ n, bodyE ty T_etchhouselaw8_DrillChosenHasAll n I_etchhouselaw8_DrillChosenHasAll (x0, x1, x2, ()) = some ((true, ()), ((), (), (), ())) := ⟨2101, by
  have ht : x0.length ≤ maxLen := hok.1.1
  have hl : x1.length ≤ maxLen := hok.2.1.1
  have ha : S_etchhouselaw8_awake = true := by decide
  rw [B_etchhouselaw8_DrillChosenHasAll_eq]
  unfold B_etchhouselaw8_DrillChosenHasAll
  rw [ha]
  cases hF : decide (S_ChoF (S_chkH x1) x0 x2 = 0) with
  | false =>
    have hk : choOk (S_chkH x1) x0 x2 = false := by
      unfold choOk
      unfold S_ChoF at hF
      cases h1 : decide (S_chkT x0 = 0) with
      | false => rfl
      | true =>
        rw [h1, cond_true] at hF
        cases h2 : decide (S_chkH x1 = 0) with
        | false => rfl
        | true =>
          rw [h2, cond_true] at hF
          cases h3 : S_within x2 0 10000 with
          | false => rfl
          | true => rw [h3] at hF; cases hF
    unfold S_ChoJ S_ChoN
    rw [hk]; rfl
  | true =>
  have hk : choOk (S_chkH x1) x0 x2 = true := by
    unfold choOk
    have hF := of_decide_eq_true hF
    unfold S_ChoF at hF
    cases h1 : decide (S_chkT x0 = 0) with
    | false => rw [h1, cond_false] at hF; rw [hF] at h1; cases h1
    | true =>
      rw [h1, cond_true] at hF
      cases h2 : decide (S_chkH x1 = 0) with
      | false => rw [h2, cond_false] at hF; rw [hF] at h2; cases h2
      | true =>
        rw [h2, cond_true] at hF
        cases h3 : S_within x2 0 10000 with
        | false => rw [h3] at hF; cases hF
        | true => rfl
  have eJ : S_ChoJ (S_chkH x1) (fun a => S_toolP x0 a x2) x0 x1 x2 = jobsGo (S_choS (fun a => S_toolP x0 a x2) x0 x1).2 x0 0 := by
    unfold S_ChoJ
    rw [hk, cond_true, choG_all, List.nil_append]
  have eN : S_ChoN (S_chkH x1) (fun a => S_toolP x0 a x2) x0 x1 x2 = (S_choS (fun a => S_toolP x0 a x2) x0 x1).1 := by
    unfold S_ChoN
    rw [hk, cond_true]
  rw [eJ, eN]
  simp only [choOk, S_within, Bool.and_eq_true, decide_eq_true_eq] at hk
  obtain ⟨hT, hH, hw1, hw2⟩ := hk
  have hdist := dist_all (f := fun a => S_toolP x0 a x2) (t := x0) (l := x1) (fun z => (tf_bound (fun a => S_off a z) x0 x2).2)
  generalize S_choS (fun a => S_toolP x0 a x2) x0 x1 = S at hdist ⊢
  obtain ⟨nn, b⟩ := S
  obtain ⟨d1, d2, d3, d4⟩ := hdist
  simp only at d1 d2 d3 d4 ⊢
  rw [List.take_length] at d3
  have hTl := (chkT_at hT).1
  -- the holes that are given are right
  have hgood : x1.length ≤ 2000 ∧ ∀ h ∈ x1, S_hole h = true := by
    unfold S_chkH at hH
    cases hd : decide ((2000 : Int) < (x1.length : Int)) with
    | true => rw [hd] at hH; cases hH
    | false =>
      rw [hd, cond_false] at hH
      have hd := of_decide_eq_false hd
      refine ⟨by omega, fun h hm => ?_⟩
      cases hall : x1.all S_hole with
      | false => rw [hall] at hH; cases hH
      | true => exact List.all_eq_true.1 hall h hm
  have hsz : ∀ h ∈ x1, 0 ≤ h.2.1 ∧ h.2.1 ≤ 10000 := fun h hm => by
    have := hgood.2 h hm
    simp only [S_hole, S_within, Bool.and_eq_true, decide_eq_true_eq] at this
    omega
  have hlen := d3.length_eq
  rw [List.length_append, List.length_map] at hlen
  have eA := allH_jobs b x0 0
  have hNJ : holesN (jobsGo b x0 0) ≤ 2000 := by rw [holesN_perm, eA]; omega
  have hmem := jobs_mem b x0 0
  have hJl : (jobsGo b x0 0).length ≤ x0.length := by
    have := (jobs_sub b x0 0).length_le
    simpa using this
  unfold S_allO
  rw [decide_eq_true (show holesN (jobsGo b x0 0) ≤ 4294967296 by omega)]
  simp only [Bool.not_true, cond_false, cond_true, Option.bind_some]
  have fold : ∀ (l : List Int) (i : Nat) (o : List Hole), foldI (fun (m : Int) _ (o : List Hole) => o ++ [x1.getD m.toNat hole0]) l i o = o ++ l.map (fun m => x1.getD m.toNat hole0) := by
    intro l
    induction l with
    | nil => intro i o; simp [foldI]
    | cons a r ih => intro i o; simp only [foldI, ih, List.map_cons, List.append_assoc, List.singleton_append]
  have hAl : (S_allH (jobsGo b x0 0)).length ≤ 2000 := by
    show (allH (jobsGo b x0 0)).length ≤ 2000
    rw [← holesN_perm]; exact hNJ
  refine (loop_fold (l := nn) (fun i (o : List Hole) => ((i, ()), (o, ()))) (fun i o => o.length = (S_allH (jobsGo b x0 0)).length + i) (fun m _ o => o ++ [x1.getD m.toNat hole0]) _ (fun i h o hI => ⟨?_, fun rec => ?_⟩) (fun o _ rec => by simp only [lt_self, cond_false]; exact rfl) (show nn.length < 2101 by omega) (s := S_allH (jobsGo b x0 0)) rfl).trans ?_
  · simp only [List.length_append, List.length_cons, List.length_nil]; omega
  · obtain ⟨q, hq, e⟩ := d2 _ (List.getElem_mem h)
    have c3 : decide (o.length + 1 ≤ 4294967296) = true := decide_eq_true (by omega)
    have hnl : nn.length ≤ maxLen := Nat.le_trans (show nn.length ≤ 2000 by omega) (by decide)
    simp only [lt_nat h, inB_nat h, getD_at h, succ64 h hnl, cond_true, Int.toNat_natCast, c3, e, inB_nat hq, decide_eq_false (show ¬ (q : Int) < 0 by omega), decide_eq_false (show ¬ ((x1.length : Nat) : Int) ≤ (q : Int) by omega), cond_false]
    rfl
  · rw [fold]
    have same : S_sameH (S_allH (jobsGo b x0 0) ++ nn.map (fun m => x1.getD m.toNat hole0)) x1 = true := sameH_perm (by
      show (allH (jobsGo b x0 0) ++ _).Perm x1
      rw [eA]; exact d3)
    have hin : ∀ x ∈ jobsGo b x0 0, ∀ h ∈ x.2.1, h ∈ x1 := fun x hx h hm => by
      obtain ⟨k, _, _, e2⟩ := hmem x hx
      rw [e2] at hm
      exact (d4 _ h hm).2
    have hchk : S_chkJ S_chkH x0 (jobsGo b x0 0) = 0 := by
      refine chkJ_zero hT (by omega) (fun x hx => ?_) ((jobs_sub b x0 0).nodup (tool_nodup hT)) (fun x hx => ?_) hNJ
      · obtain ⟨k, hk, e1, _⟩ := hmem x hx
        rw [e1]; exact bit_of hk
      · have h1 := holesN_mem _ x hx
        unfold S_chkH
        rw [decide_eq_false (show ¬ (2000 : Int) < (x.2.1.length : Int) by omega), cond_false]
        have : x.2.1.all S_hole = true := List.all_eq_true.2 fun h hm => hgood.2 h (hin x hx h hm)
        rw [this]; rfl
    rw [same, hchk]
    have hJm : (jobsGo b x0 0).length ≤ maxLen := Nat.le_trans (show (jobsGo b x0 0).length ≤ 100 by omega) (by decide)
    refine loop_pass (l := jobsGo b x0 0) (fun i => ((i, ()), ())) _ (fun i hi rec => ?_) (fun rec => by simp only [lt_self, cond_false]; rfl) (show (jobsGo b x0 0).length < 2101 by omega)
    have hx := List.getElem_mem hi
    obtain ⟨k, hk, e1, e2⟩ := hmem _ hx
    rw [Nat.zero_add] at e2
    have hxl := holesN_mem _ _ hx
    have hxm : (jobsGo b x0 0)[i].2.1.length ≤ maxLen := Nat.le_trans (show (jobsGo b x0 0)[i].2.1.length ≤ 2000 by omega) (by decide)
    simp only [lt_nat hi, inB_nat hi, getD_at hi, succ64 hi hJm, cond_true, Int.toNat_natCast, str_dec]
    refine loop_pass (l := x0) (fun q => ((q, ()), ())) _ (fun q hq rec4 => ?_) (fun rec4 => by simp only [lt_self, cond_false]) (show x0.length < 2101 by omega)
    simp only [lt_nat hq, inB_nat hq, getD_at hq, succ64 hq ht, cond_true, Int.toNat_natCast]
    refine loop_pass (l := (jobsGo b x0 0)[i].2.1) (fun p => ((p, ()), ())) _ (fun p hp rec5 => ?_) (fun rec5 => by simp only [lt_self, cond_false]) (show (jobsGo b x0 0)[i].2.1.length < 2101 by omega)
    simp only [lt_nat hp, inB_nat hp, getD_at hp, succ64 hp hxm, cond_true, Int.toNat_natCast]
    cases hn : decide (x0[q].1 = (jobsGo b x0 0)[i].1) with
    | false => rfl
    | true =>
      have hh := List.getElem_mem hp
      have hh1 := hin _ hx _ hh
      have hh2 : ∀ h, h ∈ (jobsGo b x0 0)[i].2.1 → h ∈ b.getD k [] := fun h hm => by rw [← e2]; exact hm
      obtain ⟨f1, _⟩ := d4 k _ (hh2 _ hh)
      obtain ⟨hk', f2⟩ := tf_near (off := fun a => S_off a ((jobsGo b x0 0)[i].2.1[p]).2.1) (t := x0) (near := x2) (k := k) f1
      have u1 := tool_uniq hT (List.getElem_mem hq)
      have u2 := tool_uniq hT (List.getElem_mem hk)
      rw [of_decide_eq_true hn, e1, u2] at u1
      rw [← u1]
      have hts : 0 ≤ (x0[k]).2.1 ∧ (x0[k]).2.1 ≤ 10000 := by
        have := ((chkT_at hT).2 k _ (List.getElem?_eq_getElem hk)).2.1
        omega
      have hs := hsz _ hh1
      obtain ⟨g1, g2⟩ := off_near hts hs f2
      have w1 : wrapI .i64 (((jobsGo b x0 0)[i].2.1[p]).2.1 + x2) = ((jobsGo b x0 0)[i].2.1[p]).2.1 + x2 := wrap64 (by omega) (by omega)
      have w2 : wrapI .i64 ((x0[k]).2.1 + x2) = (x0[k]).2.1 + x2 := wrap64 (by omega) (by omega)
      simp only [cond_true, w1, w2]
      rw [decide_eq_false (show ¬ ((jobsGo b x0 0)[i].2.1[p]).2.1 + x2 < (x0[k]).2.1 by omega), decide_eq_false (show ¬ (x0[k]).2.1 + x2 < ((jobsGo b x0 0)[i].2.1[p]).2.1 by omega)]
      rfl⟩
noncomputable def E_etchhouselaw8_DrillChosenHasAll : Entry Try.prog := Entry.of tok T_etchhouselaw8_DrillChosenHasAll I_etchhouselaw8_DrillChosenHasAll it_etchhouselaw8_DrillChosenHasAll (fun (x0, x1, x2, ()) => some ((true, ()), ((), (), (), ()))) (fun (x0, x1, x2, ()) r hok h => by cases h; exact ok_etchhouselaw8_DrillChosenHasAll x0 x1 x2 hok)

end Go.Proofs.Ytmhhodnackfhmaa
namespace Go.Proofs.Ytmhhodnackfhmaa
open Go Go.VM
namespace LDrillChosenHasAll
theorem law (x0 : List Mat) (x1 : List Hole) (x2 : Int) : (some ((true, ()), ((), ((), ((), ())))) : Option ((Bool × Unit) × Unit × Unit × Unit × Unit)) = some ((true, ()), ((), ((), ((), ())))) := rfl

end LDrillChosenHasAll
end Go.Proofs.Ytmhhodnackfhmaa
