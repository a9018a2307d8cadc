/- What the functions that StackNearestIsNear reaches compute, part 1; and that the law answers true, for all arguments that a row reads. -/
import Derived.Test.YtimaiganehbglaaProg
import Derived.Test.YtimaiganehbglaaVmStackNearestIsNear4
namespace Go.Proofs.Ytimaiganehbglaa
open Go Go.VM
abbrev i : Ty := .int .i64
def tab : List (Nat × Ty) := [(22, (.sl (.pair .str (.pair i (.pair i (.pair i .unit)))))), (37, (.pair .str (.pair i (.pair i (.pair i .unit))))), (9, .str), (3, i), (23, (.sl (.pair .str (.pair .str .unit)))), (35, (.pair .str (.pair .str .unit))), (43, (.sl i)), (4, .bool), (24, i), (5, (.int .u8)), (55, (.mp .str .bool)), (83, (.int .u64)), (67, (.sl (.sl (.int .i16)))), (69, (.sl (.int .i16))), (70, (.int .i16))]
def ty : Types := mkTypes tab []
theorem tok : TyOK Try.prog ty := tyok_of_check (by kernel_rfl)
end Go.Proofs.Ytimaiganehbglaa
namespace Go.Proofs.Ytimaiganehbglaa
open Go Go.VM
noncomputable def I_bytealg_IndexByteString : Inst := ⟨63, Try.f63, .leaf, pvs [.str, .int .u8], .cons .flat (.int .i64) .nil⟩
noncomputable def E_bytealg_IndexByteString : Entry Try.prog := Entry.ext I_bytealg_IndexByteString idxF (ext_idx Try.func63 (by kernel_rfl) rfl (by kernel_rfl) (by kernel_rfl))

end Go.Proofs.Ytimaiganehbglaa
namespace Go.Proofs.Ytimaiganehbglaa
open Go Go.VM
/-! ### internal.stringslite.IndexByte -/
noncomputable def I_stringslite_IndexByte : Inst := ⟨61, Try.f61, .two (.reg []) (.two (.reg [(2, 0)]) (.leaf)), (.cons (.pv .str) (.cons (.pv (.int .u8)) .nil)), (.cons .flat i .nil)⟩
theorem it_stringslite_IndexByte : InTab Try.prog I_stringslite_IndexByte := ⟨Try.func61, by kernel_rfl, rfl⟩
noncomputable def T_stringslite_IndexByte : Nat → Entry Try.prog := nth (Entry.no Try.f0) [E_bytealg_IndexByteString]
noncomputable def B_stringslite_IndexByte (x0 : ByteArray) (x1 : Int) : Option (((Int × Unit) × (Unit × (Unit × Unit)))) :=
  some ((S_idx x0 x1, ()), ((), ((), ())))
theorem B_stringslite_IndexByte_eq (n : Nat) (x0 : ByteArray) (x1 : Int) : bodyE ty T_stringslite_IndexByte n I_stringslite_IndexByte (x0, (x1, ())) = B_stringslite_IndexByte x0 x1 := by kernel_rfl

end Go.Proofs.Ytimaiganehbglaa
namespace Go.Proofs.Ytimaiganehbglaa
open Go Go.VM
def S_stringslite_IndexByte (x0 : ByteArray) (x1 : Int) : Int := S_idx x0 x1
theorem ok_stringslite_IndexByte (x0 : ByteArray) (x1 : Int) (hok : OkA I_stringslite_IndexByte.args (x0, x1, ())) : ∃ n, bodyE ty T_stringslite_IndexByte n I_stringslite_IndexByte (x0, x1, ()) = some (((S_stringslite_IndexByte x0 x1), ()), ((), (), ())) := ⟨0, by rw [B_stringslite_IndexByte_eq]; rfl⟩
noncomputable def E_stringslite_IndexByte : Entry Try.prog := Entry.of tok T_stringslite_IndexByte I_stringslite_IndexByte it_stringslite_IndexByte (fun (x0, x1, ()) => some (((S_stringslite_IndexByte x0 x1), ()), ((), (), ()))) (fun (x0, x1, ()) r hok h => by cases h; exact ok_stringslite_IndexByte x0 x1 hok)

end Go.Proofs.Ytimaiganehbglaa
namespace Go.Proofs.Ytimaiganehbglaa
open Go Go.VM
/-! ### strings.IndexByte -/
noncomputable def I_strings_IndexByte : Inst := ⟨55, Try.f55, .two (.reg []) (.two (.reg [(2, 0)]) (.leaf)), (.cons (.pv .str) (.cons (.pv (.int .u8)) .nil)), (.cons .flat i .nil)⟩
theorem it_strings_IndexByte : InTab Try.prog I_strings_IndexByte := ⟨Try.func55, by kernel_rfl, rfl⟩
noncomputable def T_strings_IndexByte : Nat → Entry Try.prog := nth (Entry.no Try.f0) [E_stringslite_IndexByte]
noncomputable def B_strings_IndexByte (x0 : ByteArray) (x1 : Int) : Option (((Int × Unit) × (Unit × (Unit × Unit)))) :=
  some ((S_stringslite_IndexByte x0 x1, ()), ((), ((), ())))
theorem B_strings_IndexByte_eq (n : Nat) (x0 : ByteArray) (x1 : Int) : bodyE ty T_strings_IndexByte n I_strings_IndexByte (x0, (x1, ())) = B_strings_IndexByte x0 x1 := by kernel_rfl

end Go.Proofs.Ytimaiganehbglaa
namespace Go.Proofs.Ytimaiganehbglaa
open Go Go.VM
def S_strings_IndexByte (x0 : ByteArray) (x1 : Int) : Int := S_stringslite_IndexByte x0 x1
theorem ok_strings_IndexByte (x0 : ByteArray) (x1 : Int) (hok : OkA I_strings_IndexByte.args (x0, x1, ())) : ∃ n, bodyE ty T_strings_IndexByte n I_strings_IndexByte (x0, x1, ()) = some (((S_strings_IndexByte x0 x1), ()), ((), (), ())) := ⟨0, by rw [B_strings_IndexByte_eq]; rfl⟩
noncomputable def E_strings_IndexByte : Entry Try.prog := Entry.of tok T_strings_IndexByte I_strings_IndexByte it_strings_IndexByte (fun (x0, x1, ()) => some (((S_strings_IndexByte x0 x1), ()), ((), (), ()))) (fun (x0, x1, ()) r hok h => by cases h; exact ok_strings_IndexByte x0 x1 hok)

end Go.Proofs.Ytimaiganehbglaa
namespace Go.Proofs.Ytimaiganehbglaa
open Go Go.VM
/-! ### etchhouse.netlist.IsWord -/
noncomputable def I_netlist_IsWord : Inst := ⟨35, Try.f35, .two (.reg []) (.two (.two (.reg []) (.one (.loop ⟨[(7, .pv i)], [], [0, 6], []⟩ (.two (.reg []) (.two (.two (.leaf) (.leaf)) (.two (.one (.two (.reg []) (.two (.reg []) (.two (.reg [(24, 0)]) (.two (.two (.reg []) (.leaf)) (.leaf)))))) (.reg []))))))) (.two (.reg []) (.leaf))), (.cons (.pv .str) .nil), (.cons .flat .bool .nil)⟩
theorem it_netlist_IsWord : InTab Try.prog I_netlist_IsWord := ⟨Try.func35, by kernel_rfl, rfl⟩
noncomputable def T_netlist_IsWord : Nat → Entry Try.prog := nth (Entry.no Try.f0) [E_strings_IndexByte]
noncomputable def B_netlist_IsWord (n : Nat) (x0 : ByteArray) : Option (((Bool × Unit) × (Unit × Unit))) :=
  loopN (fun rec1 => fun
  | ((v1aa, ()), ()) =>
    (bif decide ((v1aa < ((ByteArray.size x0 : Nat) : Int))) then
      (bif inB v1aa (ByteArray.size x0) then
        (bif decide ((strAt x0 v1aa.toNat < 65)) then
          (bif decide ((strAt x0 v1aa.toNat < 97)) then
            (bif decide ((strAt x0 v1aa.toNat < 48)) then
              (bif decide ((S_strings_IndexByte (strOf [95, 43, 45, 35]) (strAt x0 v1aa.toNat) < 0)) then
                some ((false, ()), ((), ()))
              else
                rec1 ((wrapI .i64 (v1aa + 1), ()), ()))
            else
              (bif decide ((57 < strAt x0 v1aa.toNat)) then
                (bif decide ((S_strings_IndexByte (strOf [95, 43, 45, 35]) (strAt x0 v1aa.toNat) < 0)) then
                  some ((false, ()), ((), ()))
                else
                  rec1 ((wrapI .i64 (v1aa + 1), ()), ()))
              else
                rec1 ((wrapI .i64 (v1aa + 1), ()), ())))
          else
            (bif decide ((122 < strAt x0 v1aa.toNat)) then
              (bif decide ((strAt x0 v1aa.toNat < 48)) then
                (bif decide ((S_strings_IndexByte (strOf [95, 43, 45, 35]) (strAt x0 v1aa.toNat) < 0)) then
                  some ((false, ()), ((), ()))
                else
                  rec1 ((wrapI .i64 (v1aa + 1), ()), ()))
              else
                (bif decide ((57 < strAt x0 v1aa.toNat)) then
                  (bif decide ((S_strings_IndexByte (strOf [95, 43, 45, 35]) (strAt x0 v1aa.toNat) < 0)) then
                    some ((false, ()), ((), ()))
                  else
                    rec1 ((wrapI .i64 (v1aa + 1), ()), ()))
                else
                  rec1 ((wrapI .i64 (v1aa + 1), ()), ())))
            else
              rec1 ((wrapI .i64 (v1aa + 1), ()), ())))
        else
          (bif decide ((90 < strAt x0 v1aa.toNat)) then
            (bif decide ((strAt x0 v1aa.toNat < 97)) then
              (bif decide ((strAt x0 v1aa.toNat < 48)) then
                (bif decide ((S_strings_IndexByte (strOf [95, 43, 45, 35]) (strAt x0 v1aa.toNat) < 0)) then
                  some ((false, ()), ((), ()))
                else
                  rec1 ((wrapI .i64 (v1aa + 1), ()), ()))
              else
                (bif decide ((57 < strAt x0 v1aa.toNat)) then
                  (bif decide ((S_strings_IndexByte (strOf [95, 43, 45, 35]) (strAt x0 v1aa.toNat) < 0)) then
                    some ((false, ()), ((), ()))
                  else
                    rec1 ((wrapI .i64 (v1aa + 1), ()), ()))
                else
                  rec1 ((wrapI .i64 (v1aa + 1), ()), ())))
            else
              (bif decide ((122 < strAt x0 v1aa.toNat)) then
                (bif decide ((strAt x0 v1aa.toNat < 48)) then
                  (bif decide ((S_strings_IndexByte (strOf [95, 43, 45, 35]) (strAt x0 v1aa.toNat) < 0)) then
                    some ((false, ()), ((), ()))
                  else
                    rec1 ((wrapI .i64 (v1aa + 1), ()), ()))
                else
                  (bif decide ((57 < strAt x0 v1aa.toNat)) then
                    (bif decide ((S_strings_IndexByte (strOf [95, 43, 45, 35]) (strAt x0 v1aa.toNat) < 0)) then
                      some ((false, ()), ((), ()))
                    else
                      rec1 ((wrapI .i64 (v1aa + 1), ()), ()))
                  else
                    rec1 ((wrapI .i64 (v1aa + 1), ()), ())))
              else
                rec1 ((wrapI .i64 (v1aa + 1), ()), ())))
          else
            rec1 ((wrapI .i64 (v1aa + 1), ()), ())))
      else
        none)
    else
      (bif decide ((1 ≤ ((ByteArray.size x0 : Nat) : Int))) then
        some ((decide ((((ByteArray.size x0 : Nat) : Int) ≤ 40)), ()), ((), ()))
      else
        some ((false, ()), ((), ())))))
  n ((0, ()), ())
theorem B_netlist_IsWord_eq (n : Nat) (x0 : ByteArray) : bodyE ty T_netlist_IsWord n I_netlist_IsWord (x0, ()) = B_netlist_IsWord n x0 := by kernel_rfl

end Go.Proofs.Ytimaiganehbglaa
namespace Go.Proofs.Ytimaiganehbglaa
open Go Go.VM
theorem ok_netlist_IsWord (x0 : ByteArray) (hok : OkA I_netlist_IsWord.args (x0, ())) : ∃ n, bodyE ty T_netlist_IsWord n I_netlist_IsWord (x0, ()) = some ((S_word x0, ()), ((), ())) := ⟨ByteArray.size x0 + 1, by
  have hl : ByteArray.size x0 ≤ maxLen := hok.1
  rw [B_netlist_IsWord_eq]
  unfold B_netlist_IsWord S_word
  refine (loop_list (l := x0.data.toList) (fun i (_ : Unit) => ((i, ()), ())) (fun a i _ => bif okB (a.toNat : Int) then .inl () else .inr (some ((false, ()), ((), ())))) (fun _ => some ((decide (1 ≤ ((ByteArray.size x0 : Nat) : Int)) && decide (((ByteArray.size x0 : Nat) : Int) ≤ 40), ()), ((), ()))) (fun i h s rec => ?_) (fun s rec => ?_) (Nat.lt_succ_self _) ()).trans ?_
  · have h' : i < ByteArray.size x0 := h
    simp only [lt_nat h', inB_nat h', strAt_nat h, succ64 h' hl, cond_true]
    generalize (x0.data.toList[i].toNat : Int) = c
    unfold okB
    simp only [show ∀ a b, S_strings_IndexByte a b = S_idx a b from fun _ _ => rfl]
    cases decide (c < 65) <;> cases decide (90 < c) <;> cases decide (c < 97) <;> cases decide (122 < c) <;> cases decide (c < 48) <;> cases decide (57 < c) <;> cases decide (S_idx (strOf [95, 43, 45, 35]) c < 0) <;> rfl
  · rw [← size_list]
    simp only [lt_self, cond_false]
    cases decide (1 ≤ ((ByteArray.size x0 : Nat) : Int)) <;> rfl
  · rw [all_go]
    cases x0.data.toList.all fun b => okB (b.toNat : Int) <;> rfl⟩
noncomputable def E_netlist_IsWord : Entry Try.prog := Entry.of tok T_netlist_IsWord I_netlist_IsWord it_netlist_IsWord (fun (x0, ()) => some ((S_word x0, ()), ((), ()))) (fun (x0, ()) r hok h => by cases h; exact ok_netlist_IsWord x0 hok)

end Go.Proofs.Ytimaiganehbglaa
namespace Go.Proofs.Ytimaiganehbglaa
open Go Go.VM
/-! ### etchhouse.stack.within -/
noncomputable def I_stack_within : Inst := ⟨36, Try.f36, .two (.reg []) (.two (.reg []) (.leaf)), (.cons (.pv i) (.cons (.pv i) (.cons (.pv i) .nil))), (.cons .flat .bool .nil)⟩
theorem it_stack_within : InTab Try.prog I_stack_within := ⟨Try.func36, by kernel_rfl, rfl⟩
noncomputable def T_stack_within : Nat → Entry Try.prog := nth (Entry.no Try.f0) []
noncomputable def B_stack_within (x0 : Int) (x1 : Int) (x2 : Int) : Option (((Bool × Unit) × (Unit × (Unit × (Unit × Unit))))) :=
  (bif decide ((x1 ≤ x0)) then
    some ((decide ((x0 ≤ x2)), ()), ((), ((), ((), ()))))
  else
    some ((false, ()), ((), ((), ((), ())))))
theorem B_stack_within_eq (n : Nat) (x0 : Int) (x1 : Int) (x2 : Int) : bodyE ty T_stack_within n I_stack_within (x0, (x1, (x2, ()))) = B_stack_within x0 x1 x2 := by kernel_rfl

end Go.Proofs.Ytimaiganehbglaa
namespace Go.Proofs.Ytimaiganehbglaa
open Go Go.VM
theorem ok_stack_within (x0 x1 x2 : Int) (hok : OkA I_stack_within.args (x0, x1, x2, ())) : ∃ n, bodyE ty T_stack_within n I_stack_within (x0, x1, x2, ()) = some ((S_within x0 x1 x2, ()), ((), (), (), ())) := ⟨0, by
  rw [B_stack_within_eq]; unfold B_stack_within S_within; cases decide (x1 ≤ x0) <;> rfl⟩
noncomputable def E_stack_within : Entry Try.prog := Entry.of tok T_stack_within I_stack_within it_stack_within (fun (x0, x1, x2, ()) => some ((S_within x0 x1 x2, ()), ((), (), (), ()))) (fun (x0, x1, x2, ()) r hok h => by cases h; exact ok_stack_within x0 x1 x2 hok)

end Go.Proofs.Ytimaiganehbglaa
namespace Go.Proofs.Ytimaiganehbglaa
open Go Go.VM
/-! ### etchhouse.stack.CheckMaterials -/
noncomputable def I_stack_CheckMaterials : Inst := ⟨11, Try.f11, .two (.reg []) (.two (.two (.reg []) (.two (.two (.reg []) (.leaf)) (.leaf))) (.two (.two (.reg []) (.one (.loop ⟨[(10, .pv i)], [], [0, 8, 9], []⟩ (.two (.reg []) (.two (.two (.leaf) (.leaf)) (.two (.one (.two (.reg []) (.one (.two (.reg [(2, 0)]) (.two (.two (.reg []) (.leaf)) (.two (.reg [(2, 1)]) (.two (.two (.reg []) (.leaf)) (.two (.reg [(2, 1), (7, 1)]) (.two (.two (.reg []) (.leaf)) (.two (.draw [] [0, 1, 2, 3, 4, 5, 6, 7, 8, 9, 10, 11, 12, 13] [4]) (.two (.two (.reg []) (.leaf)) (.leaf)))))))))))) (.reg []))))))) (.two (.reg []) (.leaf)))), (.cons (.pv (.sl (.pair .str (.pair i (.pair i (.pair i .unit)))))) .nil), (.cons .flat i .nil)⟩
theorem it_stack_CheckMaterials : InTab Try.prog I_stack_CheckMaterials := ⟨Try.func11, by kernel_rfl, rfl⟩
noncomputable def T_stack_CheckMaterials : Nat → Entry Try.prog := nth (Entry.no Try.f0) [E_netlist_IsWord, E_stack_within]
noncomputable def B_stack_CheckMaterials (n : Nat) (x0 : List (ByteArray × (Int × (Int × (Int × Unit))))) : Option (((Int × Unit) × (Unit × Unit))) :=
  (bif decide ((50 < ((x0.length : Nat) : Int))) then
    some ((2, ()), ((), ()))
  else
    loopN (fun rec1 => fun
    | ((v1aa, ()), ()) =>
      (bif decide ((v1aa < ((x0.length : Nat) : Int))) then
        (bif inB v1aa x0.length then
          (bif (!(S_word ((x0.getD v1aa.toNat ((strOf []), (0, (0, (0, ()))))).1))) then
            some ((5, ()), ((), ()))
          else
            (bif (!(S_within (((x0.getD v1aa.toNat ((strOf []), (0, (0, (0, ()))))).2).1) 1 3)) then
              some ((4, ()), ((), ()))
            else
              (bif (!(S_within ((((x0.getD v1aa.toNat ((strOf []), (0, (0, (0, ()))))).2).2).1) 1 2000)) then
                some ((1, ()), ((), ()))
              else
                (bif (!(S_within (((((x0.getD v1aa.toNat ((strOf []), (0, (0, (0, ()))))).2).2).2).1) 0 1000)) then
                  some ((1, ()), ((), ()))
                else
                  (bif decide ((0 < v1aa)) then
                    (bif inB (wrapI .i64 (v1aa - 1)) x0.length then
                      (bif (Op.bytesLess (ByteArray.toList ((x0.getD v1aa.toNat ((strOf []), (0, (0, (0, ()))))).1)) (ByteArray.toList ((x0.getD ((wrapI .i64 (v1aa - 1)).toNat) ((strOf []), (0, (0, (0, ()))))).1)) || decide ((ByteArray.toList ((x0.getD v1aa.toNat ((strOf []), (0, (0, (0, ()))))).1) = ByteArray.toList ((x0.getD ((wrapI .i64 (v1aa - 1)).toNat) ((strOf []), (0, (0, (0, ()))))).1)))) then
                        some ((8, ()), ((), ()))
                      else
                        rec1 ((wrapI .i64 (v1aa + 1), ()), ()))
                    else
                      none)
                  else
                    rec1 ((wrapI .i64 (v1aa + 1), ()), ()))))))
        else
          none)
      else
        some ((0, ()), ((), ()))))
    n ((0, ()), ()))
theorem B_stack_CheckMaterials_eq (n : Nat) (x0 : List (ByteArray × (Int × (Int × (Int × Unit))))) : bodyE ty T_stack_CheckMaterials n I_stack_CheckMaterials (x0, ()) = B_stack_CheckMaterials n x0 := by kernel_rfl

end Go.Proofs.Ytimaiganehbglaa
namespace Go.Proofs.Ytimaiganehbglaa
open Go Go.VM
theorem ok_stack_CheckMaterials (x0 : List Mat) (hok : OkA I_stack_CheckMaterials.args (x0, ())) : ∃ n, bodyE ty T_stack_CheckMaterials n I_stack_CheckMaterials (x0, ()) = some ((S_chkM x0, ()), ((), ())) := ⟨x0.length + 1, by
  have hl : x0.length ≤ maxLen := hok.1.1
  rw [B_stack_CheckMaterials_eq]
  unfold B_stack_CheckMaterials
  exact chkM_loop (R := fun a => some ((a, ()), ((), ()))) hl (Nat.lt_succ_self _)⟩
noncomputable def E_stack_CheckMaterials : Entry Try.prog := Entry.of tok T_stack_CheckMaterials I_stack_CheckMaterials it_stack_CheckMaterials (fun (x0, ()) => some ((S_chkM x0, ()), ((), ()))) (fun (x0, ()) r hok h => by cases h; exact ok_stack_CheckMaterials x0 hok)

end Go.Proofs.Ytimaiganehbglaa
namespace Go.Proofs.Ytimaiganehbglaa
open Go Go.VM
noncomputable def I_bytealg_abigen_runtime_cmpstring : Inst := ⟨64, Try.f64, .leaf, pvs [.str, .str], .cons .flat (.int .i64) .nil⟩
noncomputable def E_bytealg_abigen_runtime_cmpstring : Entry Try.prog := Entry.ext I_bytealg_abigen_runtime_cmpstring cmpF (ext_cmp Try.func64 (by kernel_rfl) rfl (by kernel_rfl) (by kernel_rfl))

end Go.Proofs.Ytimaiganehbglaa
namespace Go.Proofs.Ytimaiganehbglaa
open Go Go.VM
/-! ### internal.bytealg.CompareString -/
noncomputable def I_bytealg_CompareString : Inst := ⟨62, Try.f62, .two (.reg []) (.two (.reg [(2, 0)]) (.leaf)), (.cons (.pv .str) (.cons (.pv .str) .nil)), (.cons .flat i .nil)⟩
theorem it_bytealg_CompareString : InTab Try.prog I_bytealg_CompareString := ⟨Try.func62, by kernel_rfl, rfl⟩
noncomputable def T_bytealg_CompareString : Nat → Entry Try.prog := nth (Entry.no Try.f0) [E_bytealg_abigen_runtime_cmpstring]
noncomputable def B_bytealg_CompareString (x0 : ByteArray) (x1 : ByteArray) : Option (((Int × Unit) × (Unit × (Unit × Unit)))) :=
  some ((S_cmps x0 x1, ()), ((), ((), ())))
theorem B_bytealg_CompareString_eq (n : Nat) (x0 : ByteArray) (x1 : ByteArray) : bodyE ty T_bytealg_CompareString n I_bytealg_CompareString (x0, (x1, ())) = B_bytealg_CompareString x0 x1 := by kernel_rfl

end Go.Proofs.Ytimaiganehbglaa
namespace Go.Proofs.Ytimaiganehbglaa
open Go Go.VM
def S_bytealg_CompareString (x0 : ByteArray) (x1 : ByteArray) : Int := S_cmps x0 x1
theorem ok_bytealg_CompareString (x0 : ByteArray) (x1 : ByteArray) (hok : OkA I_bytealg_CompareString.args (x0, x1, ())) : ∃ n, bodyE ty T_bytealg_CompareString n I_bytealg_CompareString (x0, x1, ()) = some (((S_bytealg_CompareString x0 x1), ()), ((), (), ())) := ⟨0, by rw [B_bytealg_CompareString_eq]; rfl⟩
noncomputable def E_bytealg_CompareString : Entry Try.prog := Entry.of tok T_bytealg_CompareString I_bytealg_CompareString it_bytealg_CompareString (fun (x0, x1, ()) => some (((S_bytealg_CompareString x0 x1), ()), ((), (), ()))) (fun (x0, x1, ()) r hok h => by cases h; exact ok_bytealg_CompareString x0 x1 hok)

end Go.Proofs.Ytimaiganehbglaa
namespace Go.Proofs.Ytimaiganehbglaa
open Go Go.VM
/-! ### strings.Compare -/
noncomputable def I_strings_Compare : Inst := ⟨58, Try.f58, .two (.reg []) (.two (.reg [(2, 0)]) (.leaf)), (.cons (.pv .str) (.cons (.pv .str) .nil)), (.cons .flat i .nil)⟩
theorem it_strings_Compare : InTab Try.prog I_strings_Compare := ⟨Try.func58, by kernel_rfl, rfl⟩
noncomputable def T_strings_Compare : Nat → Entry Try.prog := nth (Entry.no Try.f0) [E_bytealg_CompareString]
noncomputable def B_strings_Compare (x0 : ByteArray) (x1 : ByteArray) : Option (((Int × Unit) × (Unit × (Unit × Unit)))) :=
  some ((S_bytealg_CompareString x0 x1, ()), ((), ((), ())))
theorem B_strings_Compare_eq (n : Nat) (x0 : ByteArray) (x1 : ByteArray) : bodyE ty T_strings_Compare n I_strings_Compare (x0, (x1, ())) = B_strings_Compare x0 x1 := by kernel_rfl

end Go.Proofs.Ytimaiganehbglaa
namespace Go.Proofs.Ytimaiganehbglaa
open Go Go.VM
def S_strings_Compare (x0 : ByteArray) (x1 : ByteArray) : Int := S_bytealg_CompareString x0 x1
theorem ok_strings_Compare (x0 : ByteArray) (x1 : ByteArray) (hok : OkA I_strings_Compare.args (x0, x1, ())) : ∃ n, bodyE ty T_strings_Compare n I_strings_Compare (x0, x1, ()) = some (((S_strings_Compare x0 x1), ()), ((), (), ())) := ⟨0, by rw [B_strings_Compare_eq]; rfl⟩
noncomputable def E_strings_Compare : Entry Try.prog := Entry.of tok T_strings_Compare I_strings_Compare it_strings_Compare (fun (x0, x1, ()) => some (((S_strings_Compare x0 x1), ()), ((), (), ()))) (fun (x0, x1, ()) r hok h => by cases h; exact ok_strings_Compare x0 x1 hok)

end Go.Proofs.Ytimaiganehbglaa
namespace Go.Proofs.Ytimaiganehbglaa
open Go Go.VM
/-! ### etchhouse.stack.materialOf$1 -/
noncomputable def I_stack_materialOf_1 : Inst := ⟨57, Try.f57, .two (.reg []) (.two (.reg [(3, 0)]) (.leaf)), (.cons (.pv (.pair .str (.pair i (.pair i (.pair i .unit))))) (.cons (.pv .str) .nil)), (.cons .flat i .nil)⟩
theorem it_stack_materialOf_1 : InTab Try.prog I_stack_materialOf_1 := ⟨Try.func57, by kernel_rfl, rfl⟩
noncomputable def T_stack_materialOf_1 : Nat → Entry Try.prog := nth (Entry.no Try.f0) [E_strings_Compare]
noncomputable def B_stack_materialOf_1 (x0 : (ByteArray × (Int × (Int × (Int × Unit))))) (x1 : ByteArray) : Option (((Int × Unit) × (Unit × (Unit × Unit)))) :=
  some ((S_strings_Compare x0.1 x1, ()), ((), ((), ())))
theorem B_stack_materialOf_1_eq (n : Nat) (x0 : (ByteArray × (Int × (Int × (Int × Unit))))) (x1 : ByteArray) : bodyE ty T_stack_materialOf_1 n I_stack_materialOf_1 (x0, (x1, ())) = B_stack_materialOf_1 x0 x1 := by kernel_rfl

end Go.Proofs.Ytimaiganehbglaa
namespace Go.Proofs.Ytimaiganehbglaa
open Go Go.VM
def S_stack_materialOf_1 (x0 : (ByteArray × (Int × (Int × (Int × Unit))))) (x1 : ByteArray) : Int := S_strings_Compare x0.1 x1
theorem ok_stack_materialOf_1 (x0 : (ByteArray × (Int × (Int × (Int × Unit))))) (x1 : ByteArray) (hok : OkA I_stack_materialOf_1.args (x0, x1, ())) : ∃ n, bodyE ty T_stack_materialOf_1 n I_stack_materialOf_1 (x0, x1, ()) = some (((S_stack_materialOf_1 x0 x1), ()), ((), (), ())) := ⟨0, by rw [B_stack_materialOf_1_eq]; rfl⟩
noncomputable def E_stack_materialOf_1 : Entry Try.prog := Entry.of tok T_stack_materialOf_1 I_stack_materialOf_1 it_stack_materialOf_1 (fun (x0, x1, ()) => some (((S_stack_materialOf_1 x0 x1), ()), ((), (), ()))) (fun (x0, x1, ()) r hok h => by cases h; exact ok_stack_materialOf_1 x0 x1 hok)

end Go.Proofs.Ytimaiganehbglaa
namespace Go.Proofs.Ytimaiganehbglaa
open Go Go.VM
/-! ### slices.BinarySearchFunc[[]etchhouse.api.Material,etchhouse.api.Material,string] -/
noncomputable def I_slices_BinarySearchFunc_etchhouse_api_Material_etchhouse_api_Material_string_of_stack_materialOf_1 : Inst := ⟨56, Try.f56, .two (.reg []) (.two (.reg []) (.two (.reg []) (.two (.one (.loop ⟨[(9, .pv i), (10, .pv i)], [], [0, 1, 2, 8], []⟩ (.two (.two (.reg []) (.two (.leaf) (.leaf))) (.one (.two (.reg []) (.two (.reg [(6, 0)]) (.two (.reg []) (.reg [])))))))) (.two (.reg [(11, 0)]) (.leaf))))), (.cons (.pv (.sl (.pair .str (.pair i (.pair i (.pair i .unit)))))) (.cons (.pv .str) (.cons (.fn 57 .nil) .nil))), (.cons .flat i (.cons .flat .bool .nil))⟩
theorem it_slices_BinarySearchFunc_etchhouse_api_Material_etchhouse_api_Material_string_of_stack_materialOf_1 : InTab Try.prog I_slices_BinarySearchFunc_etchhouse_api_Material_etchhouse_api_Material_string_of_stack_materialOf_1 := ⟨Try.func56, by kernel_rfl, rfl⟩
noncomputable def T_slices_BinarySearchFunc_etchhouse_api_Material_etchhouse_api_Material_string_of_stack_materialOf_1 : Nat → Entry Try.prog := nth (Entry.no Try.f0) [E_stack_materialOf_1]
noncomputable def B_slices_BinarySearchFunc_etchhouse_api_Material_etchhouse_api_Material_string_of_stack_materialOf_1 (n : Nat) (x0 : List (ByteArray × (Int × (Int × (Int × Unit))))) (x1 : ByteArray) (x2 : Unit) : Option (((Int × (Bool × Unit)) × (Unit × (Unit × (Unit × Unit))))) :=
  loopN (fun rec1 => fun
  | ((v1aa, (v1aba, ())), ()) =>
    (bif decide ((v1aa < v1aba)) then
      (bif inB (wrapI .i64 (Int.fdiv (wrapI .u64 (wrapI .i64 (v1aa + v1aba))) 2)) x0.length then
        (bif decide ((S_stack_materialOf_1 (x0.getD ((wrapI .i64 (Int.fdiv (wrapI .u64 (wrapI .i64 (v1aa + v1aba))) 2)).toNat) ((strOf []), (0, (0, (0, ()))))) x1 < 0)) then
          rec1 ((wrapI .i64 (wrapI .i64 (Int.fdiv (wrapI .u64 (wrapI .i64 (v1aa + v1aba))) 2) + 1), (v1aba, ())), ())
        else
          rec1 ((v1aa, (wrapI .i64 (Int.fdiv (wrapI .u64 (wrapI .i64 (v1aa + v1aba))) 2), ())), ()))
      else
        none)
    else
      (bif decide ((v1aa < ((x0.length : Nat) : Int))) then
        (bif inB v1aa x0.length then
          some ((v1aa, (decide ((S_stack_materialOf_1 (x0.getD v1aa.toNat ((strOf []), (0, (0, (0, ()))))) x1 = 0)), ())), ((), ((), ((), ()))))
        else
          none)
      else
        some ((v1aa, (false, ())), ((), ((), ((), ())))))))
  n ((0, (((x0.length : Nat) : Int), ())), ())
theorem B_slices_BinarySearchFunc_etchhouse_api_Material_etchhouse_api_Material_string_of_stack_materialOf_1_eq (n : Nat) (x0 : List (ByteArray × (Int × (Int × (Int × Unit))))) (x1 : ByteArray) (x2 : Unit) : bodyE ty T_slices_BinarySearchFunc_etchhouse_api_Material_etchhouse_api_Material_string_of_stack_materialOf_1 n I_slices_BinarySearchFunc_etchhouse_api_Material_etchhouse_api_Material_string_of_stack_materialOf_1 (x0, (x1, (x2, ()))) = B_slices_BinarySearchFunc_etchhouse_api_Material_etchhouse_api_Material_string_of_stack_materialOf_1 n x0 x1 x2 := by kernel_rfl

end Go.Proofs.Ytimaiganehbglaa
namespace Go.Proofs.Ytimaiganehbglaa
open Go Go.VM
def S_slices_BinarySearchFunc_etchhouse_api_Material_etchhouse_api_Material_string_of_stack_materialOf_1_i (x0 : List (ByteArray × (Int × (Int × (Int × Unit))))) (x1 : ByteArray) (x2 : Unit) : Int := ((bsI (fun a : (ByteArray × (Int × (Int × (Int × Unit)))) => S_stack_materialOf_1 a x1) x0 ((strOf []), (0, (0, (0, ())))) : Nat) : Int)
def S_slices_BinarySearchFunc_etchhouse_api_Material_etchhouse_api_Material_string_of_stack_materialOf_1_f (x0 : List (ByteArray × (Int × (Int × (Int × Unit))))) (x1 : ByteArray) (x2 : Unit) : Bool := bsF (fun a : (ByteArray × (Int × (Int × (Int × Unit)))) => S_stack_materialOf_1 a x1) x0 ((strOf []), (0, (0, (0, ()))))
theorem ok_slices_BinarySearchFunc_etchhouse_api_Material_etchhouse_api_Material_string_of_stack_materialOf_1 (x0 : List (ByteArray × (Int × (Int × (Int × Unit))))) (x1 : ByteArray) (x2 : Unit) (hok : OkA I_slices_BinarySearchFunc_etchhouse_api_Material_etchhouse_api_Material_string_of_stack_materialOf_1.args (x0, x1, x2, ())) : ∃ n, bodyE ty T_slices_BinarySearchFunc_etchhouse_api_Material_etchhouse_api_Material_string_of_stack_materialOf_1 n I_slices_BinarySearchFunc_etchhouse_api_Material_etchhouse_api_Material_string_of_stack_materialOf_1 (x0, x1, x2, ()) = some ((S_slices_BinarySearchFunc_etchhouse_api_Material_etchhouse_api_Material_string_of_stack_materialOf_1_i x0 x1 x2, S_slices_BinarySearchFunc_etchhouse_api_Material_etchhouse_api_Material_string_of_stack_materialOf_1_f x0 x1 x2, ()), ((), (), (), ())) := ⟨x0.length + 1, by
  have hl : x0.length ≤ maxLen := hok.1.1
  rw [B_slices_BinarySearchFunc_etchhouse_api_Material_etchhouse_api_Material_string_of_stack_materialOf_1_eq]
  unfold B_slices_BinarySearchFunc_etchhouse_api_Material_etchhouse_api_Material_string_of_stack_materialOf_1 S_slices_BinarySearchFunc_etchhouse_api_Material_etchhouse_api_Material_string_of_stack_materialOf_1_i S_slices_BinarySearchFunc_etchhouse_api_Material_etchhouse_api_Material_string_of_stack_materialOf_1_f
  exact bs_loop (fun a : (ByteArray × (Int × (Int × (Int × Unit)))) => S_stack_materialOf_1 a x1) (R := fun a b => ((a, b, ()), ((), (), (), ()))) hl (Nat.lt_succ_self _)⟩
noncomputable def E_slices_BinarySearchFunc_etchhouse_api_Material_etchhouse_api_Material_string_of_stack_materialOf_1 : Entry Try.prog := Entry.of tok T_slices_BinarySearchFunc_etchhouse_api_Material_etchhouse_api_Material_string_of_stack_materialOf_1 I_slices_BinarySearchFunc_etchhouse_api_Material_etchhouse_api_Material_string_of_stack_materialOf_1 it_slices_BinarySearchFunc_etchhouse_api_Material_etchhouse_api_Material_string_of_stack_materialOf_1 (fun (x0, x1, x2, ()) => some ((S_slices_BinarySearchFunc_etchhouse_api_Material_etchhouse_api_Material_string_of_stack_materialOf_1_i x0 x1 x2, S_slices_BinarySearchFunc_etchhouse_api_Material_etchhouse_api_Material_string_of_stack_materialOf_1_f x0 x1 x2, ()), ((), (), (), ()))) (fun (x0, x1, x2, ()) r hok h => by cases h; exact ok_slices_BinarySearchFunc_etchhouse_api_Material_etchhouse_api_Material_string_of_stack_materialOf_1 x0 x1 x2 hok)

end Go.Proofs.Ytimaiganehbglaa
namespace Go.Proofs.Ytimaiganehbglaa
open Go Go.VM
/-! ### etchhouse.stack.materialOf -/
noncomputable def I_stack_materialOf : Inst := ⟨39, Try.f39, .two (.reg []) (.two (.reg [(2, 0)]) (.two (.two (.reg []) (.two (.two (.reg []) (.leaf)) (.leaf))) (.two (.reg []) (.leaf)))), (.cons (.pv (.sl (.pair .str (.pair i (.pair i (.pair i .unit)))))) (.cons (.pv .str) .nil)), (.cons .flat (.pair .str (.pair i (.pair i (.pair i .unit)))) (.cons .flat .bool .nil))⟩
theorem it_stack_materialOf : InTab Try.prog I_stack_materialOf := ⟨Try.func39, by kernel_rfl, rfl⟩
noncomputable def T_stack_materialOf : Nat → Entry Try.prog := nth (Entry.no Try.f0) [E_slices_BinarySearchFunc_etchhouse_api_Material_etchhouse_api_Material_string_of_stack_materialOf_1]
noncomputable def B_stack_materialOf (x0 : List (ByteArray × (Int × (Int × (Int × Unit))))) (x1 : ByteArray) : Option ((((ByteArray × (Int × (Int × (Int × Unit)))) × (Bool × Unit)) × (Unit × (Unit × Unit)))) :=
  (bif (!(S_slices_BinarySearchFunc_etchhouse_api_Material_etchhouse_api_Material_string_of_stack_materialOf_1_f x0 x1 ())) then
    some ((((strOf []), (0, (0, (0, ())))), (false, ())), ((), ((), ())))
  else
    (bif inB (S_slices_BinarySearchFunc_etchhouse_api_Material_etchhouse_api_Material_string_of_stack_materialOf_1_i x0 x1 ()) x0.length then
      some ((x0.getD ((S_slices_BinarySearchFunc_etchhouse_api_Material_etchhouse_api_Material_string_of_stack_materialOf_1_i x0 x1 ()).toNat) ((strOf []), (0, (0, (0, ())))), (true, ())), ((), ((), ())))
    else
      none))
theorem B_stack_materialOf_eq (n : Nat) (x0 : List (ByteArray × (Int × (Int × (Int × Unit))))) (x1 : ByteArray) : bodyE ty T_stack_materialOf n I_stack_materialOf (x0, (x1, ())) = B_stack_materialOf x0 x1 := by kernel_rfl

end Go.Proofs.Ytimaiganehbglaa
namespace Go.Proofs.Ytimaiganehbglaa
open Go Go.VM
theorem ok_stack_materialOf (x0 : List Mat) (x1 : ByteArray) (hok : OkA I_stack_materialOf.args (x0, x1, ())) : ∃ n, bodyE ty T_stack_materialOf n I_stack_materialOf (x0, x1, ()) = some ((S_matP x0 x1, S_there x0 x1, ()), ((), (), ())) := ⟨0, by
  rw [B_stack_materialOf_eq]
  unfold B_stack_materialOf S_matP
  change (bif !S_there x0 x1 then _ else bif inB ((bsI (fun a : Mat => S_cmps a.1 x1) x0 mat0 : Nat) : Int) x0.length then _ else _) = _
  cases h : S_there x0 x1 with
  | false => rfl
  | true =>
    have hb : bsI (fun a : Mat => S_cmps a.1 x1) x0 mat0 < x0.length := by
      simp only [S_there, bsF, Bool.and_eq_true, decide_eq_true_eq] at h
      exact h.1
    rw [inB_nat hb]
    rfl⟩
noncomputable def E_stack_materialOf : Entry Try.prog := Entry.of tok T_stack_materialOf I_stack_materialOf it_stack_materialOf (fun (x0, x1, ()) => some ((S_matP x0 x1, S_there x0 x1, ()), ((), (), ()))) (fun (x0, x1, ()) r hok h => by cases h; exact ok_stack_materialOf x0 x1 hok)

end Go.Proofs.Ytimaiganehbglaa
namespace Go.Proofs.Ytimaiganehbglaa
open Go Go.VM
/-! ### etchhouse.stack.kindOf -/
noncomputable def I_stack_kindOf : Inst := ⟨41, Try.f41, .two (.reg []) (.two (.reg [(3, 0)]) (.two (.reg []) (.leaf))), (.cons (.pv (.sl (.pair .str (.pair i (.pair i (.pair i .unit)))))) (.cons (.pv (.pair .str (.pair .str .unit))) .nil)), (.cons .flat i .nil)⟩
theorem it_stack_kindOf : InTab Try.prog I_stack_kindOf := ⟨Try.func41, by kernel_rfl, rfl⟩
noncomputable def T_stack_kindOf : Nat → Entry Try.prog := nth (Entry.no Try.f0) [E_stack_materialOf]
noncomputable def B_stack_kindOf (x0 : List (ByteArray × (Int × (Int × (Int × Unit))))) (x1 : (ByteArray × (ByteArray × Unit))) : Option (((Int × Unit) × (Unit × (Unit × Unit)))) :=
  some ((((S_matP x0 x1.2.1).2).1, ()), ((), ((), ())))
theorem B_stack_kindOf_eq (n : Nat) (x0 : List (ByteArray × (Int × (Int × (Int × Unit))))) (x1 : (ByteArray × (ByteArray × Unit))) : bodyE ty T_stack_kindOf n I_stack_kindOf (x0, (x1, ())) = B_stack_kindOf x0 x1 := by kernel_rfl

end Go.Proofs.Ytimaiganehbglaa
namespace Go.Proofs.Ytimaiganehbglaa
open Go Go.VM
theorem ok_stack_kindOf (x0 : List Mat) (x1 : Lay) (hok : OkA I_stack_kindOf.args (x0, x1, ())) : ∃ n, bodyE ty T_stack_kindOf n I_stack_kindOf (x0, x1, ()) = some ((S_kindP x0 x1, ()), ((), (), ())) := ⟨0, by rw [B_stack_kindOf_eq]; rfl⟩
noncomputable def E_stack_kindOf : Entry Try.prog := Entry.of tok T_stack_kindOf I_stack_kindOf it_stack_kindOf (fun (x0, x1, ()) => some ((S_kindP x0 x1, ()), ((), (), ()))) (fun (x0, x1, ()) r hok h => by cases h; exact ok_stack_kindOf x0 x1 hok)

end Go.Proofs.Ytimaiganehbglaa
namespace Go.Proofs.Ytimaiganehbglaa
open Go Go.VM
/-! ### etchhouse.stack.coppers -/
noncomputable def I_stack_coppers : Inst := ⟨40, Try.f40, .two (.reg []) (.two (.reg []) (.two (.two (.reg []) (.one (.loop ⟨[(5, .st (.at (.rf 5 []))), (10, .pv i)], [(5, ⟨(.own .flat), (.sl i), false, false⟩)], [0, 8, 9], []⟩ (.two (.reg []) (.two (.two (.leaf) (.leaf)) (.two (.one (.two (.reg []) (.two (.reg [(2, 0)]) (.two (.reg []) (.leaf))))) (.reg []))))))) (.two (.reg []) (.leaf)))), (.cons (.pv (.sl (.pair .str (.pair i (.pair i (.pair i .unit)))))) (.cons (.pv (.sl (.pair .str (.pair .str .unit)))) .nil)), (.cons (.own .flat) (.sl i) .nil)⟩
theorem it_stack_coppers : InTab Try.prog I_stack_coppers := ⟨Try.func40, by kernel_rfl, rfl⟩
noncomputable def T_stack_coppers : Nat → Entry Try.prog := nth (Entry.no Try.f0) [E_stack_kindOf]
noncomputable def B_stack_coppers (n : Nat) (x0 : List (ByteArray × (Int × (Int × (Int × Unit))))) (x1 : List (ByteArray × (ByteArray × Unit))) : Option (((List Int × Unit) × (Unit × (Unit × Unit)))) :=
  loopN (fun rec1 => fun
  | ((v1aa, ()), (v1ba, ())) =>
    (bif decide ((v1aa < ((x1.length : Nat) : Int))) then
      (bif inB v1aa x1.length then
        (bif decide ((S_kindP x0 (x1.getD v1aa.toNat ((strOf []), ((strOf []), ()))) = 1)) then
          (bif decide (((v1ba.length + 1) ≤ 4294967296)) then
            rec1 ((wrapI .i64 (v1aa + 1), ()), ((v1ba ++ [v1aa]), ()))
          else
            none)
        else
          rec1 ((wrapI .i64 (v1aa + 1), ()), (v1ba, ())))
      else
        none)
    else
      some ((v1ba, ()), ((), ((), ())))))
  n ((0, ()), ([], ()))
theorem B_stack_coppers_eq (n : Nat) (x0 : List (ByteArray × (Int × (Int × (Int × Unit))))) (x1 : List (ByteArray × (ByteArray × Unit))) : bodyE ty T_stack_coppers n I_stack_coppers (x0, (x1, ())) = B_stack_coppers n x0 x1 := by kernel_rfl

end Go.Proofs.Ytimaiganehbglaa
namespace Go.Proofs.Ytimaiganehbglaa
open Go Go.VM
def S_cusO_stack_coppers (x0 : List Mat) (x1 : List Lay) : Option ((List Int × Unit) × Unit × Unit × Unit) := bif decide (x1.length ≤ 4294967296) then some ((S_cusP x0 x1, ()), ((), (), ())) else none
theorem ok_stack_coppers (x0 : List Mat) (x1 : List Lay) (hok : OkA I_stack_coppers.args (x0, x1, ())) (r) (h : S_cusO_stack_coppers x0 x1 = some r) : ∃ n, bodyE ty T_stack_coppers n I_stack_coppers (x0, x1, ()) = some r := ⟨x1.length + 1, by
  have hl : x1.length ≤ maxLen := hok.2.1.1
  rw [B_stack_coppers_eq, ← h]
  unfold S_cusO_stack_coppers at h ⊢
  cases hd : decide (x1.length ≤ 4294967296) with
  | false => rw [hd] at h; cases h
  | true =>
    unfold B_stack_coppers S_cusP
    exact idx_loop (fun l => decide (S_kindP x0 l = 1)) (R := fun a => some ((a, ()), ((), (), ()))) hl (of_decide_eq_true hd) (Nat.lt_succ_self _)⟩
noncomputable def E_stack_coppers : Entry Try.prog := Entry.of tok T_stack_coppers I_stack_coppers it_stack_coppers (fun (x0, x1, ()) => S_cusO_stack_coppers x0 x1) (fun (x0, x1, ()) r hok h => ok_stack_coppers x0 x1 hok r h)

end Go.Proofs.Ytimaiganehbglaa
namespace Go.Proofs.Ytimaiganehbglaa
open Go Go.VM
/-! ### etchhouse.stack.CheckStack -/
noncomputable def I_stack_CheckStack : Inst := ⟨13, Try.f13, .two (.reg []) (.two (.two (.reg [(1, 0)]) (.two (.reg []) (.two (.two (.reg []) (.leaf)) (.leaf)))) (.two (.two (.reg []) (.two (.two (.reg []) (.leaf)) (.leaf))) (.two (.reg []) (.two (.reg []) (.two (.two (.reg []) (.one (.loop ⟨[(7, .pv i), (25, .pv i)], [(6, ⟨.mapO, (.mp .str .bool), false, false⟩)], [0, 1, 6, 23, 24], []⟩ (.two (.reg []) (.two (.two (.leaf) (.leaf)) (.two (.one (.two (.reg []) (.two (.reg [(3, 1)]) (.two (.reg []) (.two (.one (.two (.reg []) (.two (.two (.reg []) (.leaf)) (.two (.reg [(4, 2)]) (.two (.two (.reg []) (.leaf)) (.two (.reg []) (.two (.two (.reg []) (.leaf)) (.two (.two (.reg []) (.two (.leaf) (.two (.reg []) (.two (.leaf) (.reg []))))) (.two (.two (.reg []) (.leaf)) (.leaf)))))))))) (.two (.reg []) (.reg []))))))) (.reg []))))))) (.two (.two (.reg [(2, 3)]) (.two (.reg [(7, 4), (18, 4)]) (.two (.two (.reg []) (.leaf)) (.leaf)))) (.two (.reg []) (.leaf)))))))), (.cons (.pv (.sl (.pair .str (.pair i (.pair i (.pair i .unit)))))) (.cons (.pv (.sl (.pair .str (.pair .str .unit)))) .nil)), (.cons .flat i .nil)⟩
theorem it_stack_CheckStack : InTab Try.prog I_stack_CheckStack := ⟨Try.func13, by kernel_rfl, rfl⟩
noncomputable def T_stack_CheckStack : Nat → Entry Try.prog := nth (Entry.no Try.f0) [E_stack_CheckMaterials, E_stack_materialOf, E_netlist_IsWord, E_stack_coppers, E_stack_kindOf]
noncomputable def B_stack_CheckStack (n : Nat) (x0 : List (ByteArray × (Int × (Int × (Int × Unit))))) (x1 : List (ByteArray × (ByteArray × Unit))) : Option (((Int × Unit) × (Unit × (Unit × Unit)))) :=
  (bif (!(decide ((S_chkM x0 = 0)))) then
    some ((S_chkM x0, ()), ((), ((), ())))
  else
    (bif decide ((60 < ((x1.length : Nat) : Int))) then
      some ((2, ()), ((), ((), ())))
    else
      loopN (fun rec1 => fun
      | ((v1aa, (v1aba, ())), (v1ba, ())) =>
        (bif decide ((v1aba < ((x1.length : Nat) : Int))) then
          (bif inB v1aba x1.length then
            (bif (!(S_there x0 (((x1.getD v1aba.toNat ((strOf []), ((strOf []), ()))).2).1))) then
              some ((9, ()), ((), ((), ())))
            else
              (bif decide ((((S_matP x0 (((x1.getD v1aba.toNat ((strOf []), ((strOf []), ()))).2).1)).2).1 = 1)) then
                (bif (!(S_word ((x1.getD v1aba.toNat ((strOf []), ((strOf []), ()))).1))) then
                  some ((5, ()), ((), ((), ())))
                else
                  (bif (!(decide ((((S_matP x0 (((x1.getD v1aba.toNat ((strOf []), ((strOf []), ()))).2).1)).2).1 = 1)))) then
                    (bif (!(decide ((ByteArray.toList ((x1.getD v1aba.toNat ((strOf []), ((strOf []), ()))).1) = ByteArray.toList (strOf []))))) then
                      some ((5, ()), ((), ((), ())))
                    else
                      (bif decide ((((S_matP x0 (((x1.getD v1aba.toNat ((strOf []), ((strOf []), ()))).2).1)).2).1 = 1)) then
                        (bif lookM .str .bool v1ba ((x1.getD v1aba.toNat ((strOf []), ((strOf []), ()))).1) then
                          some ((7, ()), ((), ((), ())))
                        else
                          (bif decide ((((S_matP x0 (((x1.getD v1aba.toNat ((strOf []), ((strOf []), ()))).2).1)).2).1 = 1)) then
                            (bif decide ((v1aa = 1)) then
                              (bif decide ((v1aa = 1)) then
                                some ((8, ()), ((), ((), ())))
                              else
                                rec1 ((((S_matP x0 (((x1.getD v1aba.toNat ((strOf []), ((strOf []), ()))).2).1)).2).1, (wrapI .i64 (v1aba + 1), ())), (setM .str .bool v1ba ((x1.getD v1aba.toNat ((strOf []), ((strOf []), ()))).1) true, ())))
                            else
                              (bif decide ((((S_matP x0 (((x1.getD v1aba.toNat ((strOf []), ((strOf []), ()))).2).1)).2).1 = 2)) then
                                (bif (!(decide ((v1aa = 0)))) then
                                  (bif (!(decide ((v1aa = 1)))) then
                                    (bif (!(decide ((v1aa = 1)))) then
                                      some ((8, ()), ((), ((), ())))
                                    else
                                      rec1 ((((S_matP x0 (((x1.getD v1aba.toNat ((strOf []), ((strOf []), ()))).2).1)).2).1, (wrapI .i64 (v1aba + 1), ())), (setM .str .bool v1ba ((x1.getD v1aba.toNat ((strOf []), ((strOf []), ()))).1) true, ())))
                                  else
                                    (bif decide ((v1aa = 2)) then
                                      (bif (!(decide ((((S_matP x0 (((x1.getD v1aba.toNat ((strOf []), ((strOf []), ()))).2).1)).2).1 = 1)))) then
                                        some ((8, ()), ((), ((), ())))
                                      else
                                        rec1 ((((S_matP x0 (((x1.getD v1aba.toNat ((strOf []), ((strOf []), ()))).2).1)).2).1, (wrapI .i64 (v1aba + 1), ())), (setM .str .bool v1ba ((x1.getD v1aba.toNat ((strOf []), ((strOf []), ()))).1) true, ())))
                                    else
                                      rec1 ((((S_matP x0 (((x1.getD v1aba.toNat ((strOf []), ((strOf []), ()))).2).1)).2).1, (wrapI .i64 (v1aba + 1), ())), (setM .str .bool v1ba ((x1.getD v1aba.toNat ((strOf []), ((strOf []), ()))).1) true, ()))))
                                else
                                  (bif decide ((v1aa = 2)) then
                                    (bif (!(decide ((((S_matP x0 (((x1.getD v1aba.toNat ((strOf []), ((strOf []), ()))).2).1)).2).1 = 1)))) then
                                      some ((8, ()), ((), ((), ())))
                                    else
                                      rec1 ((((S_matP x0 (((x1.getD v1aba.toNat ((strOf []), ((strOf []), ()))).2).1)).2).1, (wrapI .i64 (v1aba + 1), ())), (setM .str .bool v1ba ((x1.getD v1aba.toNat ((strOf []), ((strOf []), ()))).1) true, ())))
                                  else
                                    rec1 ((((S_matP x0 (((x1.getD v1aba.toNat ((strOf []), ((strOf []), ()))).2).1)).2).1, (wrapI .i64 (v1aba + 1), ())), (setM .str .bool v1ba ((x1.getD v1aba.toNat ((strOf []), ((strOf []), ()))).1) true, ()))))
                              else
                                (bif decide ((v1aa = 2)) then
                                  (bif (!(decide ((((S_matP x0 (((x1.getD v1aba.toNat ((strOf []), ((strOf []), ()))).2).1)).2).1 = 1)))) then
                                    some ((8, ()), ((), ((), ())))
                                  else
                                    rec1 ((((S_matP x0 (((x1.getD v1aba.toNat ((strOf []), ((strOf []), ()))).2).1)).2).1, (wrapI .i64 (v1aba + 1), ())), (setM .str .bool v1ba ((x1.getD v1aba.toNat ((strOf []), ((strOf []), ()))).1) true, ())))
                                else
                                  rec1 ((((S_matP x0 (((x1.getD v1aba.toNat ((strOf []), ((strOf []), ()))).2).1)).2).1, (wrapI .i64 (v1aba + 1), ())), (setM .str .bool v1ba ((x1.getD v1aba.toNat ((strOf []), ((strOf []), ()))).1) true, ())))))
                          else
                            (bif decide ((((S_matP x0 (((x1.getD v1aba.toNat ((strOf []), ((strOf []), ()))).2).1)).2).1 = 2)) then
                              (bif (!(decide ((v1aa = 0)))) then
                                (bif (!(decide ((v1aa = 1)))) then
                                  (bif (!(decide ((v1aa = 1)))) then
                                    some ((8, ()), ((), ((), ())))
                                  else
                                    rec1 ((((S_matP x0 (((x1.getD v1aba.toNat ((strOf []), ((strOf []), ()))).2).1)).2).1, (wrapI .i64 (v1aba + 1), ())), (setM .str .bool v1ba ((x1.getD v1aba.toNat ((strOf []), ((strOf []), ()))).1) true, ())))
                                else
                                  (bif decide ((v1aa = 2)) then
                                    (bif (!(decide ((((S_matP x0 (((x1.getD v1aba.toNat ((strOf []), ((strOf []), ()))).2).1)).2).1 = 1)))) then
                                      some ((8, ()), ((), ((), ())))
                                    else
                                      rec1 ((((S_matP x0 (((x1.getD v1aba.toNat ((strOf []), ((strOf []), ()))).2).1)).2).1, (wrapI .i64 (v1aba + 1), ())), (setM .str .bool v1ba ((x1.getD v1aba.toNat ((strOf []), ((strOf []), ()))).1) true, ())))
                                  else
                                    rec1 ((((S_matP x0 (((x1.getD v1aba.toNat ((strOf []), ((strOf []), ()))).2).1)).2).1, (wrapI .i64 (v1aba + 1), ())), (setM .str .bool v1ba ((x1.getD v1aba.toNat ((strOf []), ((strOf []), ()))).1) true, ()))))
                              else
                                (bif decide ((v1aa = 2)) then
                                  (bif (!(decide ((((S_matP x0 (((x1.getD v1aba.toNat ((strOf []), ((strOf []), ()))).2).1)).2).1 = 1)))) then
                                    some ((8, ()), ((), ((), ())))
                                  else
                                    rec1 ((((S_matP x0 (((x1.getD v1aba.toNat ((strOf []), ((strOf []), ()))).2).1)).2).1, (wrapI .i64 (v1aba + 1), ())), (setM .str .bool v1ba ((x1.getD v1aba.toNat ((strOf []), ((strOf []), ()))).1) true, ())))
                                else
                                  rec1 ((((S_matP x0 (((x1.getD v1aba.toNat ((strOf []), ((strOf []), ()))).2).1)).2).1, (wrapI .i64 (v1aba + 1), ())), (setM .str .bool v1ba ((x1.getD v1aba.toNat ((strOf []), ((strOf []), ()))).1) true, ()))))
                            else
                              (bif decide ((v1aa = 2)) then
                                (bif (!(decide ((((S_matP x0 (((x1.getD v1aba.toNat ((strOf []), ((strOf []), ()))).2).1)).2).1 = 1)))) then
                                  some ((8, ()), ((), ((), ())))
                                else
                                  rec1 ((((S_matP x0 (((x1.getD v1aba.toNat ((strOf []), ((strOf []), ()))).2).1)).2).1, (wrapI .i64 (v1aba + 1), ())), (setM .str .bool v1ba ((x1.getD v1aba.toNat ((strOf []), ((strOf []), ()))).1) true, ())))
                              else
                                rec1 ((((S_matP x0 (((x1.getD v1aba.toNat ((strOf []), ((strOf []), ()))).2).1)).2).1, (wrapI .i64 (v1aba + 1), ())), (setM .str .bool v1ba ((x1.getD v1aba.toNat ((strOf []), ((strOf []), ()))).1) true, ()))))))
                      else
                        (bif decide ((((S_matP x0 (((x1.getD v1aba.toNat ((strOf []), ((strOf []), ()))).2).1)).2).1 = 1)) then
                          (bif decide ((v1aa = 1)) then
                            (bif decide ((v1aa = 1)) then
                              some ((8, ()), ((), ((), ())))
                            else
                              rec1 ((((S_matP x0 (((x1.getD v1aba.toNat ((strOf []), ((strOf []), ()))).2).1)).2).1, (wrapI .i64 (v1aba + 1), ())), (setM .str .bool v1ba ((x1.getD v1aba.toNat ((strOf []), ((strOf []), ()))).1) true, ())))
                          else
                            (bif decide ((((S_matP x0 (((x1.getD v1aba.toNat ((strOf []), ((strOf []), ()))).2).1)).2).1 = 2)) then
                              (bif (!(decide ((v1aa = 0)))) then
                                (bif (!(decide ((v1aa = 1)))) then
                                  (bif (!(decide ((v1aa = 1)))) then
                                    some ((8, ()), ((), ((), ())))
                                  else
                                    rec1 ((((S_matP x0 (((x1.getD v1aba.toNat ((strOf []), ((strOf []), ()))).2).1)).2).1, (wrapI .i64 (v1aba + 1), ())), (setM .str .bool v1ba ((x1.getD v1aba.toNat ((strOf []), ((strOf []), ()))).1) true, ())))
                                else
                                  (bif decide ((v1aa = 2)) then
                                    (bif (!(decide ((((S_matP x0 (((x1.getD v1aba.toNat ((strOf []), ((strOf []), ()))).2).1)).2).1 = 1)))) then
                                      some ((8, ()), ((), ((), ())))
                                    else
                                      rec1 ((((S_matP x0 (((x1.getD v1aba.toNat ((strOf []), ((strOf []), ()))).2).1)).2).1, (wrapI .i64 (v1aba + 1), ())), (setM .str .bool v1ba ((x1.getD v1aba.toNat ((strOf []), ((strOf []), ()))).1) true, ())))
                                  else
                                    rec1 ((((S_matP x0 (((x1.getD v1aba.toNat ((strOf []), ((strOf []), ()))).2).1)).2).1, (wrapI .i64 (v1aba + 1), ())), (setM .str .bool v1ba ((x1.getD v1aba.toNat ((strOf []), ((strOf []), ()))).1) true, ()))))
                              else
                                (bif decide ((v1aa = 2)) then
                                  (bif (!(decide ((((S_matP x0 (((x1.getD v1aba.toNat ((strOf []), ((strOf []), ()))).2).1)).2).1 = 1)))) then
                                    some ((8, ()), ((), ((), ())))
                                  else
                                    rec1 ((((S_matP x0 (((x1.getD v1aba.toNat ((strOf []), ((strOf []), ()))).2).1)).2).1, (wrapI .i64 (v1aba + 1), ())), (setM .str .bool v1ba ((x1.getD v1aba.toNat ((strOf []), ((strOf []), ()))).1) true, ())))
                                else
                                  rec1 ((((S_matP x0 (((x1.getD v1aba.toNat ((strOf []), ((strOf []), ()))).2).1)).2).1, (wrapI .i64 (v1aba + 1), ())), (setM .str .bool v1ba ((x1.getD v1aba.toNat ((strOf []), ((strOf []), ()))).1) true, ()))))
                            else
                              (bif decide ((v1aa = 2)) then
                                (bif (!(decide ((((S_matP x0 (((x1.getD v1aba.toNat ((strOf []), ((strOf []), ()))).2).1)).2).1 = 1)))) then
                                  some ((8, ()), ((), ((), ())))
                                else
                                  rec1 ((((S_matP x0 (((x1.getD v1aba.toNat ((strOf []), ((strOf []), ()))).2).1)).2).1, (wrapI .i64 (v1aba + 1), ())), (setM .str .bool v1ba ((x1.getD v1aba.toNat ((strOf []), ((strOf []), ()))).1) true, ())))
                              else
                                rec1 ((((S_matP x0 (((x1.getD v1aba.toNat ((strOf []), ((strOf []), ()))).2).1)).2).1, (wrapI .i64 (v1aba + 1), ())), (setM .str .bool v1ba ((x1.getD v1aba.toNat ((strOf []), ((strOf []), ()))).1) true, ())))))
                        else
                          (bif decide ((((S_matP x0 (((x1.getD v1aba.toNat ((strOf []), ((strOf []), ()))).2).1)).2).1 = 2)) then
                            (bif (!(decide ((v1aa = 0)))) then
                              (bif (!(decide ((v1aa = 1)))) then
                                (bif (!(decide ((v1aa = 1)))) then
                                  some ((8, ()), ((), ((), ())))
                                else
                                  rec1 ((((S_matP x0 (((x1.getD v1aba.toNat ((strOf []), ((strOf []), ()))).2).1)).2).1, (wrapI .i64 (v1aba + 1), ())), (setM .str .bool v1ba ((x1.getD v1aba.toNat ((strOf []), ((strOf []), ()))).1) true, ())))
                              else
                                (bif decide ((v1aa = 2)) then
                                  (bif (!(decide ((((S_matP x0 (((x1.getD v1aba.toNat ((strOf []), ((strOf []), ()))).2).1)).2).1 = 1)))) then
                                    some ((8, ()), ((), ((), ())))
                                  else
                                    rec1 ((((S_matP x0 (((x1.getD v1aba.toNat ((strOf []), ((strOf []), ()))).2).1)).2).1, (wrapI .i64 (v1aba + 1), ())), (setM .str .bool v1ba ((x1.getD v1aba.toNat ((strOf []), ((strOf []), ()))).1) true, ())))
                                else
                                  rec1 ((((S_matP x0 (((x1.getD v1aba.toNat ((strOf []), ((strOf []), ()))).2).1)).2).1, (wrapI .i64 (v1aba + 1), ())), (setM .str .bool v1ba ((x1.getD v1aba.toNat ((strOf []), ((strOf []), ()))).1) true, ()))))
                            else
                              (bif decide ((v1aa = 2)) then
                                (bif (!(decide ((((S_matP x0 (((x1.getD v1aba.toNat ((strOf []), ((strOf []), ()))).2).1)).2).1 = 1)))) then
                                  some ((8, ()), ((), ((), ())))
                                else
                                  rec1 ((((S_matP x0 (((x1.getD v1aba.toNat ((strOf []), ((strOf []), ()))).2).1)).2).1, (wrapI .i64 (v1aba + 1), ())), (setM .str .bool v1ba ((x1.getD v1aba.toNat ((strOf []), ((strOf []), ()))).1) true, ())))
                              else
                                rec1 ((((S_matP x0 (((x1.getD v1aba.toNat ((strOf []), ((strOf []), ()))).2).1)).2).1, (wrapI .i64 (v1aba + 1), ())), (setM .str .bool v1ba ((x1.getD v1aba.toNat ((strOf []), ((strOf []), ()))).1) true, ()))))
                          else
                            (bif decide ((v1aa = 2)) then
                              (bif (!(decide ((((S_matP x0 (((x1.getD v1aba.toNat ((strOf []), ((strOf []), ()))).2).1)).2).1 = 1)))) then
                                some ((8, ()), ((), ((), ())))
                              else
                                rec1 ((((S_matP x0 (((x1.getD v1aba.toNat ((strOf []), ((strOf []), ()))).2).1)).2).1, (wrapI .i64 (v1aba + 1), ())), (setM .str .bool v1ba ((x1.getD v1aba.toNat ((strOf []), ((strOf []), ()))).1) true, ())))
                            else
                              rec1 ((((S_matP x0 (((x1.getD v1aba.toNat ((strOf []), ((strOf []), ()))).2).1)).2).1, (wrapI .i64 (v1aba + 1), ())), (setM .str .bool v1ba ((x1.getD v1aba.toNat ((strOf []), ((strOf []), ()))).1) true, ())))))))
                  else
                    (bif decide ((((S_matP x0 (((x1.getD v1aba.toNat ((strOf []), ((strOf []), ()))).2).1)).2).1 = 1)) then
                      (bif lookM .str .bool v1ba ((x1.getD v1aba.toNat ((strOf []), ((strOf []), ()))).1) then
                        some ((7, ()), ((), ((), ())))
                      else
                        (bif decide ((((S_matP x0 (((x1.getD v1aba.toNat ((strOf []), ((strOf []), ()))).2).1)).2).1 = 1)) then
                          (bif decide ((v1aa = 1)) then
                            (bif decide ((v1aa = 1)) then
                              some ((8, ()), ((), ((), ())))
                            else
                              rec1 ((((S_matP x0 (((x1.getD v1aba.toNat ((strOf []), ((strOf []), ()))).2).1)).2).1, (wrapI .i64 (v1aba + 1), ())), (setM .str .bool v1ba ((x1.getD v1aba.toNat ((strOf []), ((strOf []), ()))).1) true, ())))
                          else
                            (bif decide ((((S_matP x0 (((x1.getD v1aba.toNat ((strOf []), ((strOf []), ()))).2).1)).2).1 = 2)) then
                              (bif (!(decide ((v1aa = 0)))) then
                                (bif (!(decide ((v1aa = 1)))) then
                                  (bif (!(decide ((v1aa = 1)))) then
                                    some ((8, ()), ((), ((), ())))
                                  else
                                    rec1 ((((S_matP x0 (((x1.getD v1aba.toNat ((strOf []), ((strOf []), ()))).2).1)).2).1, (wrapI .i64 (v1aba + 1), ())), (setM .str .bool v1ba ((x1.getD v1aba.toNat ((strOf []), ((strOf []), ()))).1) true, ())))
                                else
                                  (bif decide ((v1aa = 2)) then
                                    (bif (!(decide ((((S_matP x0 (((x1.getD v1aba.toNat ((strOf []), ((strOf []), ()))).2).1)).2).1 = 1)))) then
                                      some ((8, ()), ((), ((), ())))
                                    else
                                      rec1 ((((S_matP x0 (((x1.getD v1aba.toNat ((strOf []), ((strOf []), ()))).2).1)).2).1, (wrapI .i64 (v1aba + 1), ())), (setM .str .bool v1ba ((x1.getD v1aba.toNat ((strOf []), ((strOf []), ()))).1) true, ())))
                                  else
                                    rec1 ((((S_matP x0 (((x1.getD v1aba.toNat ((strOf []), ((strOf []), ()))).2).1)).2).1, (wrapI .i64 (v1aba + 1), ())), (setM .str .bool v1ba ((x1.getD v1aba.toNat ((strOf []), ((strOf []), ()))).1) true, ()))))
                              else
                                (bif decide ((v1aa = 2)) then
                                  (bif (!(decide ((((S_matP x0 (((x1.getD v1aba.toNat ((strOf []), ((strOf []), ()))).2).1)).2).1 = 1)))) then
                                    some ((8, ()), ((), ((), ())))
                                  else
                                    rec1 ((((S_matP x0 (((x1.getD v1aba.toNat ((strOf []), ((strOf []), ()))).2).1)).2).1, (wrapI .i64 (v1aba + 1), ())), (setM .str .bool v1ba ((x1.getD v1aba.toNat ((strOf []), ((strOf []), ()))).1) true, ())))
                                else
                                  rec1 ((((S_matP x0 (((x1.getD v1aba.toNat ((strOf []), ((strOf []), ()))).2).1)).2).1, (wrapI .i64 (v1aba + 1), ())), (setM .str .bool v1ba ((x1.getD v1aba.toNat ((strOf []), ((strOf []), ()))).1) true, ()))))
                            else
                              (bif decide ((v1aa = 2)) then
                                (bif (!(decide ((((S_matP x0 (((x1.getD v1aba.toNat ((strOf []), ((strOf []), ()))).2).1)).2).1 = 1)))) then
                                  some ((8, ()), ((), ((), ())))
                                else
                                  rec1 ((((S_matP x0 (((x1.getD v1aba.toNat ((strOf []), ((strOf []), ()))).2).1)).2).1, (wrapI .i64 (v1aba + 1), ())), (setM .str .bool v1ba ((x1.getD v1aba.toNat ((strOf []), ((strOf []), ()))).1) true, ())))
                              else
                                rec1 ((((S_matP x0 (((x1.getD v1aba.toNat ((strOf []), ((strOf []), ()))).2).1)).2).1, (wrapI .i64 (v1aba + 1), ())), (setM .str .bool v1ba ((x1.getD v1aba.toNat ((strOf []), ((strOf []), ()))).1) true, ())))))
                        else
                          (bif decide ((((S_matP x0 (((x1.getD v1aba.toNat ((strOf []), ((strOf []), ()))).2).1)).2).1 = 2)) then
                            (bif (!(decide ((v1aa = 0)))) then
                              (bif (!(decide ((v1aa = 1)))) then
                                (bif (!(decide ((v1aa = 1)))) then
                                  some ((8, ()), ((), ((), ())))
                                else
                                  rec1 ((((S_matP x0 (((x1.getD v1aba.toNat ((strOf []), ((strOf []), ()))).2).1)).2).1, (wrapI .i64 (v1aba + 1), ())), (setM .str .bool v1ba ((x1.getD v1aba.toNat ((strOf []), ((strOf []), ()))).1) true, ())))
                              else
                                (bif decide ((v1aa = 2)) then
                                  (bif (!(decide ((((S_matP x0 (((x1.getD v1aba.toNat ((strOf []), ((strOf []), ()))).2).1)).2).1 = 1)))) then
                                    some ((8, ()), ((), ((), ())))
                                  else
                                    rec1 ((((S_matP x0 (((x1.getD v1aba.toNat ((strOf []), ((strOf []), ()))).2).1)).2).1, (wrapI .i64 (v1aba + 1), ())), (setM .str .bool v1ba ((x1.getD v1aba.toNat ((strOf []), ((strOf []), ()))).1) true, ())))
                                else
                                  rec1 ((((S_matP x0 (((x1.getD v1aba.toNat ((strOf []), ((strOf []), ()))).2).1)).2).1, (wrapI .i64 (v1aba + 1), ())), (setM .str .bool v1ba ((x1.getD v1aba.toNat ((strOf []), ((strOf []), ()))).1) true, ()))))
                            else
                              (bif decide ((v1aa = 2)) then
                                (bif (!(decide ((((S_matP x0 (((x1.getD v1aba.toNat ((strOf []), ((strOf []), ()))).2).1)).2).1 = 1)))) then
                                  some ((8, ()), ((), ((), ())))
                                else
                                  rec1 ((((S_matP x0 (((x1.getD v1aba.toNat ((strOf []), ((strOf []), ()))).2).1)).2).1, (wrapI .i64 (v1aba + 1), ())), (setM .str .bool v1ba ((x1.getD v1aba.toNat ((strOf []), ((strOf []), ()))).1) true, ())))
                              else
                                rec1 ((((S_matP x0 (((x1.getD v1aba.toNat ((strOf []), ((strOf []), ()))).2).1)).2).1, (wrapI .i64 (v1aba + 1), ())), (setM .str .bool v1ba ((x1.getD v1aba.toNat ((strOf []), ((strOf []), ()))).1) true, ()))))
                          else
                            (bif decide ((v1aa = 2)) then
                              (bif (!(decide ((((S_matP x0 (((x1.getD v1aba.toNat ((strOf []), ((strOf []), ()))).2).1)).2).1 = 1)))) then
                                some ((8, ()), ((), ((), ())))
                              else
                                rec1 ((((S_matP x0 (((x1.getD v1aba.toNat ((strOf []), ((strOf []), ()))).2).1)).2).1, (wrapI .i64 (v1aba + 1), ())), (setM .str .bool v1ba ((x1.getD v1aba.toNat ((strOf []), ((strOf []), ()))).1) true, ())))
                            else
                              rec1 ((((S_matP x0 (((x1.getD v1aba.toNat ((strOf []), ((strOf []), ()))).2).1)).2).1, (wrapI .i64 (v1aba + 1), ())), (setM .str .bool v1ba ((x1.getD v1aba.toNat ((strOf []), ((strOf []), ()))).1) true, ()))))))
                    else
                      (bif decide ((((S_matP x0 (((x1.getD v1aba.toNat ((strOf []), ((strOf []), ()))).2).1)).2).1 = 1)) then
                        (bif decide ((v1aa = 1)) then
                          (bif decide ((v1aa = 1)) then
                            some ((8, ()), ((), ((), ())))
                          else
                            rec1 ((((S_matP x0 (((x1.getD v1aba.toNat ((strOf []), ((strOf []), ()))).2).1)).2).1, (wrapI .i64 (v1aba + 1), ())), (setM .str .bool v1ba ((x1.getD v1aba.toNat ((strOf []), ((strOf []), ()))).1) true, ())))
                        else
                          (bif decide ((((S_matP x0 (((x1.getD v1aba.toNat ((strOf []), ((strOf []), ()))).2).1)).2).1 = 2)) then
                            (bif (!(decide ((v1aa = 0)))) then
                              (bif (!(decide ((v1aa = 1)))) then
                                (bif (!(decide ((v1aa = 1)))) then
                                  some ((8, ()), ((), ((), ())))
                                else
                                  rec1 ((((S_matP x0 (((x1.getD v1aba.toNat ((strOf []), ((strOf []), ()))).2).1)).2).1, (wrapI .i64 (v1aba + 1), ())), (setM .str .bool v1ba ((x1.getD v1aba.toNat ((strOf []), ((strOf []), ()))).1) true, ())))
                              else
                                (bif decide ((v1aa = 2)) then
                                  (bif (!(decide ((((S_matP x0 (((x1.getD v1aba.toNat ((strOf []), ((strOf []), ()))).2).1)).2).1 = 1)))) then
                                    some ((8, ()), ((), ((), ())))
                                  else
                                    rec1 ((((S_matP x0 (((x1.getD v1aba.toNat ((strOf []), ((strOf []), ()))).2).1)).2).1, (wrapI .i64 (v1aba + 1), ())), (setM .str .bool v1ba ((x1.getD v1aba.toNat ((strOf []), ((strOf []), ()))).1) true, ())))
                                else
                                  rec1 ((((S_matP x0 (((x1.getD v1aba.toNat ((strOf []), ((strOf []), ()))).2).1)).2).1, (wrapI .i64 (v1aba + 1), ())), (setM .str .bool v1ba ((x1.getD v1aba.toNat ((strOf []), ((strOf []), ()))).1) true, ()))))
                            else
                              (bif decide ((v1aa = 2)) then
                                (bif (!(decide ((((S_matP x0 (((x1.getD v1aba.toNat ((strOf []), ((strOf []), ()))).2).1)).2).1 = 1)))) then
                                  some ((8, ()), ((), ((), ())))
                                else
                                  rec1 ((((S_matP x0 (((x1.getD v1aba.toNat ((strOf []), ((strOf []), ()))).2).1)).2).1, (wrapI .i64 (v1aba + 1), ())), (setM .str .bool v1ba ((x1.getD v1aba.toNat ((strOf []), ((strOf []), ()))).1) true, ())))
                              else
                                rec1 ((((S_matP x0 (((x1.getD v1aba.toNat ((strOf []), ((strOf []), ()))).2).1)).2).1, (wrapI .i64 (v1aba + 1), ())), (setM .str .bool v1ba ((x1.getD v1aba.toNat ((strOf []), ((strOf []), ()))).1) true, ()))))
                          else
                            (bif decide ((v1aa = 2)) then
                              (bif (!(decide ((((S_matP x0 (((x1.getD v1aba.toNat ((strOf []), ((strOf []), ()))).2).1)).2).1 = 1)))) then
                                some ((8, ()), ((), ((), ())))
                              else
                                rec1 ((((S_matP x0 (((x1.getD v1aba.toNat ((strOf []), ((strOf []), ()))).2).1)).2).1, (wrapI .i64 (v1aba + 1), ())), (setM .str .bool v1ba ((x1.getD v1aba.toNat ((strOf []), ((strOf []), ()))).1) true, ())))
                            else
                              rec1 ((((S_matP x0 (((x1.getD v1aba.toNat ((strOf []), ((strOf []), ()))).2).1)).2).1, (wrapI .i64 (v1aba + 1), ())), (setM .str .bool v1ba ((x1.getD v1aba.toNat ((strOf []), ((strOf []), ()))).1) true, ())))))
                      else
                        (bif decide ((((S_matP x0 (((x1.getD v1aba.toNat ((strOf []), ((strOf []), ()))).2).1)).2).1 = 2)) then
                          (bif (!(decide ((v1aa = 0)))) then
                            (bif (!(decide ((v1aa = 1)))) then
                              (bif (!(decide ((v1aa = 1)))) then
                                some ((8, ()), ((), ((), ())))
                              else
                                rec1 ((((S_matP x0 (((x1.getD v1aba.toNat ((strOf []), ((strOf []), ()))).2).1)).2).1, (wrapI .i64 (v1aba + 1), ())), (setM .str .bool v1ba ((x1.getD v1aba.toNat ((strOf []), ((strOf []), ()))).1) true, ())))
                            else
                              (bif decide ((v1aa = 2)) then
                                (bif (!(decide ((((S_matP x0 (((x1.getD v1aba.toNat ((strOf []), ((strOf []), ()))).2).1)).2).1 = 1)))) then
                                  some ((8, ()), ((), ((), ())))
                                else
                                  rec1 ((((S_matP x0 (((x1.getD v1aba.toNat ((strOf []), ((strOf []), ()))).2).1)).2).1, (wrapI .i64 (v1aba + 1), ())), (setM .str .bool v1ba ((x1.getD v1aba.toNat ((strOf []), ((strOf []), ()))).1) true, ())))
                              else
                                rec1 ((((S_matP x0 (((x1.getD v1aba.toNat ((strOf []), ((strOf []), ()))).2).1)).2).1, (wrapI .i64 (v1aba + 1), ())), (setM .str .bool v1ba ((x1.getD v1aba.toNat ((strOf []), ((strOf []), ()))).1) true, ()))))
                          else
                            (bif decide ((v1aa = 2)) then
                              (bif (!(decide ((((S_matP x0 (((x1.getD v1aba.toNat ((strOf []), ((strOf []), ()))).2).1)).2).1 = 1)))) then
                                some ((8, ()), ((), ((), ())))
                              else
                                rec1 ((((S_matP x0 (((x1.getD v1aba.toNat ((strOf []), ((strOf []), ()))).2).1)).2).1, (wrapI .i64 (v1aba + 1), ())), (setM .str .bool v1ba ((x1.getD v1aba.toNat ((strOf []), ((strOf []), ()))).1) true, ())))
                            else
                              rec1 ((((S_matP x0 (((x1.getD v1aba.toNat ((strOf []), ((strOf []), ()))).2).1)).2).1, (wrapI .i64 (v1aba + 1), ())), (setM .str .bool v1ba ((x1.getD v1aba.toNat ((strOf []), ((strOf []), ()))).1) true, ()))))
                        else
                          (bif decide ((v1aa = 2)) then
                            (bif (!(decide ((((S_matP x0 (((x1.getD v1aba.toNat ((strOf []), ((strOf []), ()))).2).1)).2).1 = 1)))) then
                              some ((8, ()), ((), ((), ())))
                            else
                              rec1 ((((S_matP x0 (((x1.getD v1aba.toNat ((strOf []), ((strOf []), ()))).2).1)).2).1, (wrapI .i64 (v1aba + 1), ())), (setM .str .bool v1ba ((x1.getD v1aba.toNat ((strOf []), ((strOf []), ()))).1) true, ())))
                          else
                            rec1 ((((S_matP x0 (((x1.getD v1aba.toNat ((strOf []), ((strOf []), ()))).2).1)).2).1, (wrapI .i64 (v1aba + 1), ())), (setM .str .bool v1ba ((x1.getD v1aba.toNat ((strOf []), ((strOf []), ()))).1) true, ()))))))))
              else
                (bif (!(decide ((((S_matP x0 (((x1.getD v1aba.toNat ((strOf []), ((strOf []), ()))).2).1)).2).1 = 1)))) then
                  (bif (!(decide ((ByteArray.toList ((x1.getD v1aba.toNat ((strOf []), ((strOf []), ()))).1) = ByteArray.toList (strOf []))))) then
                    some ((5, ()), ((), ((), ())))
                  else
                    (bif decide ((((S_matP x0 (((x1.getD v1aba.toNat ((strOf []), ((strOf []), ()))).2).1)).2).1 = 1)) then
                      (bif lookM .str .bool v1ba ((x1.getD v1aba.toNat ((strOf []), ((strOf []), ()))).1) then
                        some ((7, ()), ((), ((), ())))
                      else
                        (bif decide ((((S_matP x0 (((x1.getD v1aba.toNat ((strOf []), ((strOf []), ()))).2).1)).2).1 = 1)) then
                          (bif decide ((v1aa = 1)) then
                            (bif decide ((v1aa = 1)) then
                              some ((8, ()), ((), ((), ())))
                            else
                              rec1 ((((S_matP x0 (((x1.getD v1aba.toNat ((strOf []), ((strOf []), ()))).2).1)).2).1, (wrapI .i64 (v1aba + 1), ())), (setM .str .bool v1ba ((x1.getD v1aba.toNat ((strOf []), ((strOf []), ()))).1) true, ())))
                          else
                            (bif decide ((((S_matP x0 (((x1.getD v1aba.toNat ((strOf []), ((strOf []), ()))).2).1)).2).1 = 2)) then
                              (bif (!(decide ((v1aa = 0)))) then
                                (bif (!(decide ((v1aa = 1)))) then
                                  (bif (!(decide ((v1aa = 1)))) then
                                    some ((8, ()), ((), ((), ())))
                                  else
                                    rec1 ((((S_matP x0 (((x1.getD v1aba.toNat ((strOf []), ((strOf []), ()))).2).1)).2).1, (wrapI .i64 (v1aba + 1), ())), (setM .str .bool v1ba ((x1.getD v1aba.toNat ((strOf []), ((strOf []), ()))).1) true, ())))
                                else
                                  (bif decide ((v1aa = 2)) then
                                    (bif (!(decide ((((S_matP x0 (((x1.getD v1aba.toNat ((strOf []), ((strOf []), ()))).2).1)).2).1 = 1)))) then
                                      some ((8, ()), ((), ((), ())))
                                    else
                                      rec1 ((((S_matP x0 (((x1.getD v1aba.toNat ((strOf []), ((strOf []), ()))).2).1)).2).1, (wrapI .i64 (v1aba + 1), ())), (setM .str .bool v1ba ((x1.getD v1aba.toNat ((strOf []), ((strOf []), ()))).1) true, ())))
                                  else
                                    rec1 ((((S_matP x0 (((x1.getD v1aba.toNat ((strOf []), ((strOf []), ()))).2).1)).2).1, (wrapI .i64 (v1aba + 1), ())), (setM .str .bool v1ba ((x1.getD v1aba.toNat ((strOf []), ((strOf []), ()))).1) true, ()))))
                              else
                                (bif decide ((v1aa = 2)) then
                                  (bif (!(decide ((((S_matP x0 (((x1.getD v1aba.toNat ((strOf []), ((strOf []), ()))).2).1)).2).1 = 1)))) then
                                    some ((8, ()), ((), ((), ())))
                                  else
                                    rec1 ((((S_matP x0 (((x1.getD v1aba.toNat ((strOf []), ((strOf []), ()))).2).1)).2).1, (wrapI .i64 (v1aba + 1), ())), (setM .str .bool v1ba ((x1.getD v1aba.toNat ((strOf []), ((strOf []), ()))).1) true, ())))
                                else
                                  rec1 ((((S_matP x0 (((x1.getD v1aba.toNat ((strOf []), ((strOf []), ()))).2).1)).2).1, (wrapI .i64 (v1aba + 1), ())), (setM .str .bool v1ba ((x1.getD v1aba.toNat ((strOf []), ((strOf []), ()))).1) true, ()))))
                            else
                              (bif decide ((v1aa = 2)) then
                                (bif (!(decide ((((S_matP x0 (((x1.getD v1aba.toNat ((strOf []), ((strOf []), ()))).2).1)).2).1 = 1)))) then
                                  some ((8, ()), ((), ((), ())))
                                else
                                  rec1 ((((S_matP x0 (((x1.getD v1aba.toNat ((strOf []), ((strOf []), ()))).2).1)).2).1, (wrapI .i64 (v1aba + 1), ())), (setM .str .bool v1ba ((x1.getD v1aba.toNat ((strOf []), ((strOf []), ()))).1) true, ())))
                              else
                                rec1 ((((S_matP x0 (((x1.getD v1aba.toNat ((strOf []), ((strOf []), ()))).2).1)).2).1, (wrapI .i64 (v1aba + 1), ())), (setM .str .bool v1ba ((x1.getD v1aba.toNat ((strOf []), ((strOf []), ()))).1) true, ())))))
                        else
                          (bif decide ((((S_matP x0 (((x1.getD v1aba.toNat ((strOf []), ((strOf []), ()))).2).1)).2).1 = 2)) then
                            (bif (!(decide ((v1aa = 0)))) then
                              (bif (!(decide ((v1aa = 1)))) then
                                (bif (!(decide ((v1aa = 1)))) then
                                  some ((8, ()), ((), ((), ())))
                                else
                                  rec1 ((((S_matP x0 (((x1.getD v1aba.toNat ((strOf []), ((strOf []), ()))).2).1)).2).1, (wrapI .i64 (v1aba + 1), ())), (setM .str .bool v1ba ((x1.getD v1aba.toNat ((strOf []), ((strOf []), ()))).1) true, ())))
                              else
                                (bif decide ((v1aa = 2)) then
                                  (bif (!(decide ((((S_matP x0 (((x1.getD v1aba.toNat ((strOf []), ((strOf []), ()))).2).1)).2).1 = 1)))) then
                                    some ((8, ()), ((), ((), ())))
                                  else
                                    rec1 ((((S_matP x0 (((x1.getD v1aba.toNat ((strOf []), ((strOf []), ()))).2).1)).2).1, (wrapI .i64 (v1aba + 1), ())), (setM .str .bool v1ba ((x1.getD v1aba.toNat ((strOf []), ((strOf []), ()))).1) true, ())))
                                else
                                  rec1 ((((S_matP x0 (((x1.getD v1aba.toNat ((strOf []), ((strOf []), ()))).2).1)).2).1, (wrapI .i64 (v1aba + 1), ())), (setM .str .bool v1ba ((x1.getD v1aba.toNat ((strOf []), ((strOf []), ()))).1) true, ()))))
                            else
                              (bif decide ((v1aa = 2)) then
                                (bif (!(decide ((((S_matP x0 (((x1.getD v1aba.toNat ((strOf []), ((strOf []), ()))).2).1)).2).1 = 1)))) then
                                  some ((8, ()), ((), ((), ())))
                                else
                                  rec1 ((((S_matP x0 (((x1.getD v1aba.toNat ((strOf []), ((strOf []), ()))).2).1)).2).1, (wrapI .i64 (v1aba + 1), ())), (setM .str .bool v1ba ((x1.getD v1aba.toNat ((strOf []), ((strOf []), ()))).1) true, ())))
                              else
                                rec1 ((((S_matP x0 (((x1.getD v1aba.toNat ((strOf []), ((strOf []), ()))).2).1)).2).1, (wrapI .i64 (v1aba + 1), ())), (setM .str .bool v1ba ((x1.getD v1aba.toNat ((strOf []), ((strOf []), ()))).1) true, ()))))
                          else
                            (bif decide ((v1aa = 2)) then
                              (bif (!(decide ((((S_matP x0 (((x1.getD v1aba.toNat ((strOf []), ((strOf []), ()))).2).1)).2).1 = 1)))) then
                                some ((8, ()), ((), ((), ())))
                              else
                                rec1 ((((S_matP x0 (((x1.getD v1aba.toNat ((strOf []), ((strOf []), ()))).2).1)).2).1, (wrapI .i64 (v1aba + 1), ())), (setM .str .bool v1ba ((x1.getD v1aba.toNat ((strOf []), ((strOf []), ()))).1) true, ())))
                            else
                              rec1 ((((S_matP x0 (((x1.getD v1aba.toNat ((strOf []), ((strOf []), ()))).2).1)).2).1, (wrapI .i64 (v1aba + 1), ())), (setM .str .bool v1ba ((x1.getD v1aba.toNat ((strOf []), ((strOf []), ()))).1) true, ()))))))
                    else
                      (bif decide ((((S_matP x0 (((x1.getD v1aba.toNat ((strOf []), ((strOf []), ()))).2).1)).2).1 = 1)) then
                        (bif decide ((v1aa = 1)) then
                          (bif decide ((v1aa = 1)) then
                            some ((8, ()), ((), ((), ())))
                          else
                            rec1 ((((S_matP x0 (((x1.getD v1aba.toNat ((strOf []), ((strOf []), ()))).2).1)).2).1, (wrapI .i64 (v1aba + 1), ())), (setM .str .bool v1ba ((x1.getD v1aba.toNat ((strOf []), ((strOf []), ()))).1) true, ())))
                        else
                          (bif decide ((((S_matP x0 (((x1.getD v1aba.toNat ((strOf []), ((strOf []), ()))).2).1)).2).1 = 2)) then
                            (bif (!(decide ((v1aa = 0)))) then
                              (bif (!(decide ((v1aa = 1)))) then
                                (bif (!(decide ((v1aa = 1)))) then
                                  some ((8, ()), ((), ((), ())))
                                else
                                  rec1 ((((S_matP x0 (((x1.getD v1aba.toNat ((strOf []), ((strOf []), ()))).2).1)).2).1, (wrapI .i64 (v1aba + 1), ())), (setM .str .bool v1ba ((x1.getD v1aba.toNat ((strOf []), ((strOf []), ()))).1) true, ())))
                              else
                                (bif decide ((v1aa = 2)) then
                                  (bif (!(decide ((((S_matP x0 (((x1.getD v1aba.toNat ((strOf []), ((strOf []), ()))).2).1)).2).1 = 1)))) then
                                    some ((8, ()), ((), ((), ())))
                                  else
                                    rec1 ((((S_matP x0 (((x1.getD v1aba.toNat ((strOf []), ((strOf []), ()))).2).1)).2).1, (wrapI .i64 (v1aba + 1), ())), (setM .str .bool v1ba ((x1.getD v1aba.toNat ((strOf []), ((strOf []), ()))).1) true, ())))
                                else
                                  rec1 ((((S_matP x0 (((x1.getD v1aba.toNat ((strOf []), ((strOf []), ()))).2).1)).2).1, (wrapI .i64 (v1aba + 1), ())), (setM .str .bool v1ba ((x1.getD v1aba.toNat ((strOf []), ((strOf []), ()))).1) true, ()))))
                            else
                              (bif decide ((v1aa = 2)) then
                                (bif (!(decide ((((S_matP x0 (((x1.getD v1aba.toNat ((strOf []), ((strOf []), ()))).2).1)).2).1 = 1)))) then
                                  some ((8, ()), ((), ((), ())))
                                else
                                  rec1 ((((S_matP x0 (((x1.getD v1aba.toNat ((strOf []), ((strOf []), ()))).2).1)).2).1, (wrapI .i64 (v1aba + 1), ())), (setM .str .bool v1ba ((x1.getD v1aba.toNat ((strOf []), ((strOf []), ()))).1) true, ())))
                              else
                                rec1 ((((S_matP x0 (((x1.getD v1aba.toNat ((strOf []), ((strOf []), ()))).2).1)).2).1, (wrapI .i64 (v1aba + 1), ())), (setM .str .bool v1ba ((x1.getD v1aba.toNat ((strOf []), ((strOf []), ()))).1) true, ()))))
                          else
                            (bif decide ((v1aa = 2)) then
                              (bif (!(decide ((((S_matP x0 (((x1.getD v1aba.toNat ((strOf []), ((strOf []), ()))).2).1)).2).1 = 1)))) then
                                some ((8, ()), ((), ((), ())))
                              else
                                rec1 ((((S_matP x0 (((x1.getD v1aba.toNat ((strOf []), ((strOf []), ()))).2).1)).2).1, (wrapI .i64 (v1aba + 1), ())), (setM .str .bool v1ba ((x1.getD v1aba.toNat ((strOf []), ((strOf []), ()))).1) true, ())))
                            else
                              rec1 ((((S_matP x0 (((x1.getD v1aba.toNat ((strOf []), ((strOf []), ()))).2).1)).2).1, (wrapI .i64 (v1aba + 1), ())), (setM .str .bool v1ba ((x1.getD v1aba.toNat ((strOf []), ((strOf []), ()))).1) true, ())))))
                      else
                        (bif decide ((((S_matP x0 (((x1.getD v1aba.toNat ((strOf []), ((strOf []), ()))).2).1)).2).1 = 2)) then
                          (bif (!(decide ((v1aa = 0)))) then
                            (bif (!(decide ((v1aa = 1)))) then
                              (bif (!(decide ((v1aa = 1)))) then
                                some ((8, ()), ((), ((), ())))
                              else
                                rec1 ((((S_matP x0 (((x1.getD v1aba.toNat ((strOf []), ((strOf []), ()))).2).1)).2).1, (wrapI .i64 (v1aba + 1), ())), (setM .str .bool v1ba ((x1.getD v1aba.toNat ((strOf []), ((strOf []), ()))).1) true, ())))
                            else
                              (bif decide ((v1aa = 2)) then
                                (bif (!(decide ((((S_matP x0 (((x1.getD v1aba.toNat ((strOf []), ((strOf []), ()))).2).1)).2).1 = 1)))) then
                                  some ((8, ()), ((), ((), ())))
                                else
                                  rec1 ((((S_matP x0 (((x1.getD v1aba.toNat ((strOf []), ((strOf []), ()))).2).1)).2).1, (wrapI .i64 (v1aba + 1), ())), (setM .str .bool v1ba ((x1.getD v1aba.toNat ((strOf []), ((strOf []), ()))).1) true, ())))
                              else
                                rec1 ((((S_matP x0 (((x1.getD v1aba.toNat ((strOf []), ((strOf []), ()))).2).1)).2).1, (wrapI .i64 (v1aba + 1), ())), (setM .str .bool v1ba ((x1.getD v1aba.toNat ((strOf []), ((strOf []), ()))).1) true, ()))))
                          else
                            (bif decide ((v1aa = 2)) then
                              (bif (!(decide ((((S_matP x0 (((x1.getD v1aba.toNat ((strOf []), ((strOf []), ()))).2).1)).2).1 = 1)))) then
                                some ((8, ()), ((), ((), ())))
                              else
                                rec1 ((((S_matP x0 (((x1.getD v1aba.toNat ((strOf []), ((strOf []), ()))).2).1)).2).1, (wrapI .i64 (v1aba + 1), ())), (setM .str .bool v1ba ((x1.getD v1aba.toNat ((strOf []), ((strOf []), ()))).1) true, ())))
                            else
                              rec1 ((((S_matP x0 (((x1.getD v1aba.toNat ((strOf []), ((strOf []), ()))).2).1)).2).1, (wrapI .i64 (v1aba + 1), ())), (setM .str .bool v1ba ((x1.getD v1aba.toNat ((strOf []), ((strOf []), ()))).1) true, ()))))
                        else
                          (bif decide ((v1aa = 2)) then
                            (bif (!(decide ((((S_matP x0 (((x1.getD v1aba.toNat ((strOf []), ((strOf []), ()))).2).1)).2).1 = 1)))) then
                              some ((8, ()), ((), ((), ())))
                            else
                              rec1 ((((S_matP x0 (((x1.getD v1aba.toNat ((strOf []), ((strOf []), ()))).2).1)).2).1, (wrapI .i64 (v1aba + 1), ())), (setM .str .bool v1ba ((x1.getD v1aba.toNat ((strOf []), ((strOf []), ()))).1) true, ())))
                          else
                            rec1 ((((S_matP x0 (((x1.getD v1aba.toNat ((strOf []), ((strOf []), ()))).2).1)).2).1, (wrapI .i64 (v1aba + 1), ())), (setM .str .bool v1ba ((x1.getD v1aba.toNat ((strOf []), ((strOf []), ()))).1) true, ())))))))
                else
                  (bif decide ((((S_matP x0 (((x1.getD v1aba.toNat ((strOf []), ((strOf []), ()))).2).1)).2).1 = 1)) then
                    (bif lookM .str .bool v1ba ((x1.getD v1aba.toNat ((strOf []), ((strOf []), ()))).1) then
                      some ((7, ()), ((), ((), ())))
                    else
                      (bif decide ((((S_matP x0 (((x1.getD v1aba.toNat ((strOf []), ((strOf []), ()))).2).1)).2).1 = 1)) then
                        (bif decide ((v1aa = 1)) then
                          (bif decide ((v1aa = 1)) then
                            some ((8, ()), ((), ((), ())))
                          else
                            rec1 ((((S_matP x0 (((x1.getD v1aba.toNat ((strOf []), ((strOf []), ()))).2).1)).2).1, (wrapI .i64 (v1aba + 1), ())), (setM .str .bool v1ba ((x1.getD v1aba.toNat ((strOf []), ((strOf []), ()))).1) true, ())))
                        else
                          (bif decide ((((S_matP x0 (((x1.getD v1aba.toNat ((strOf []), ((strOf []), ()))).2).1)).2).1 = 2)) then
                            (bif (!(decide ((v1aa = 0)))) then
                              (bif (!(decide ((v1aa = 1)))) then
                                (bif (!(decide ((v1aa = 1)))) then
                                  some ((8, ()), ((), ((), ())))
                                else
                                  rec1 ((((S_matP x0 (((x1.getD v1aba.toNat ((strOf []), ((strOf []), ()))).2).1)).2).1, (wrapI .i64 (v1aba + 1), ())), (setM .str .bool v1ba ((x1.getD v1aba.toNat ((strOf []), ((strOf []), ()))).1) true, ())))
                              else
                                (bif decide ((v1aa = 2)) then
                                  (bif (!(decide ((((S_matP x0 (((x1.getD v1aba.toNat ((strOf []), ((strOf []), ()))).2).1)).2).1 = 1)))) then
                                    some ((8, ()), ((), ((), ())))
                                  else
                                    rec1 ((((S_matP x0 (((x1.getD v1aba.toNat ((strOf []), ((strOf []), ()))).2).1)).2).1, (wrapI .i64 (v1aba + 1), ())), (setM .str .bool v1ba ((x1.getD v1aba.toNat ((strOf []), ((strOf []), ()))).1) true, ())))
                                else
                                  rec1 ((((S_matP x0 (((x1.getD v1aba.toNat ((strOf []), ((strOf []), ()))).2).1)).2).1, (wrapI .i64 (v1aba + 1), ())), (setM .str .bool v1ba ((x1.getD v1aba.toNat ((strOf []), ((strOf []), ()))).1) true, ()))))
                            else
                              (bif decide ((v1aa = 2)) then
                                (bif (!(decide ((((S_matP x0 (((x1.getD v1aba.toNat ((strOf []), ((strOf []), ()))).2).1)).2).1 = 1)))) then
                                  some ((8, ()), ((), ((), ())))
                                else
                                  rec1 ((((S_matP x0 (((x1.getD v1aba.toNat ((strOf []), ((strOf []), ()))).2).1)).2).1, (wrapI .i64 (v1aba + 1), ())), (setM .str .bool v1ba ((x1.getD v1aba.toNat ((strOf []), ((strOf []), ()))).1) true, ())))
                              else
                                rec1 ((((S_matP x0 (((x1.getD v1aba.toNat ((strOf []), ((strOf []), ()))).2).1)).2).1, (wrapI .i64 (v1aba + 1), ())), (setM .str .bool v1ba ((x1.getD v1aba.toNat ((strOf []), ((strOf []), ()))).1) true, ()))))
                          else
                            (bif decide ((v1aa = 2)) then
                              (bif (!(decide ((((S_matP x0 (((x1.getD v1aba.toNat ((strOf []), ((strOf []), ()))).2).1)).2).1 = 1)))) then
                                some ((8, ()), ((), ((), ())))
                              else
                                rec1 ((((S_matP x0 (((x1.getD v1aba.toNat ((strOf []), ((strOf []), ()))).2).1)).2).1, (wrapI .i64 (v1aba + 1), ())), (setM .str .bool v1ba ((x1.getD v1aba.toNat ((strOf []), ((strOf []), ()))).1) true, ())))
                            else
                              rec1 ((((S_matP x0 (((x1.getD v1aba.toNat ((strOf []), ((strOf []), ()))).2).1)).2).1, (wrapI .i64 (v1aba + 1), ())), (setM .str .bool v1ba ((x1.getD v1aba.toNat ((strOf []), ((strOf []), ()))).1) true, ())))))
                      else
                        (bif decide ((((S_matP x0 (((x1.getD v1aba.toNat ((strOf []), ((strOf []), ()))).2).1)).2).1 = 2)) then
                          (bif (!(decide ((v1aa = 0)))) then
                            (bif (!(decide ((v1aa = 1)))) then
                              (bif (!(decide ((v1aa = 1)))) then
                                some ((8, ()), ((), ((), ())))
                              else
                                rec1 ((((S_matP x0 (((x1.getD v1aba.toNat ((strOf []), ((strOf []), ()))).2).1)).2).1, (wrapI .i64 (v1aba + 1), ())), (setM .str .bool v1ba ((x1.getD v1aba.toNat ((strOf []), ((strOf []), ()))).1) true, ())))
                            else
                              (bif decide ((v1aa = 2)) then
                                (bif (!(decide ((((S_matP x0 (((x1.getD v1aba.toNat ((strOf []), ((strOf []), ()))).2).1)).2).1 = 1)))) then
                                  some ((8, ()), ((), ((), ())))
                                else
                                  rec1 ((((S_matP x0 (((x1.getD v1aba.toNat ((strOf []), ((strOf []), ()))).2).1)).2).1, (wrapI .i64 (v1aba + 1), ())), (setM .str .bool v1ba ((x1.getD v1aba.toNat ((strOf []), ((strOf []), ()))).1) true, ())))
                              else
                                rec1 ((((S_matP x0 (((x1.getD v1aba.toNat ((strOf []), ((strOf []), ()))).2).1)).2).1, (wrapI .i64 (v1aba + 1), ())), (setM .str .bool v1ba ((x1.getD v1aba.toNat ((strOf []), ((strOf []), ()))).1) true, ()))))
                          else
                            (bif decide ((v1aa = 2)) then
                              (bif (!(decide ((((S_matP x0 (((x1.getD v1aba.toNat ((strOf []), ((strOf []), ()))).2).1)).2).1 = 1)))) then
                                some ((8, ()), ((), ((), ())))
                              else
                                rec1 ((((S_matP x0 (((x1.getD v1aba.toNat ((strOf []), ((strOf []), ()))).2).1)).2).1, (wrapI .i64 (v1aba + 1), ())), (setM .str .bool v1ba ((x1.getD v1aba.toNat ((strOf []), ((strOf []), ()))).1) true, ())))
                            else
                              rec1 ((((S_matP x0 (((x1.getD v1aba.toNat ((strOf []), ((strOf []), ()))).2).1)).2).1, (wrapI .i64 (v1aba + 1), ())), (setM .str .bool v1ba ((x1.getD v1aba.toNat ((strOf []), ((strOf []), ()))).1) true, ()))))
                        else
                          (bif decide ((v1aa = 2)) then
                            (bif (!(decide ((((S_matP x0 (((x1.getD v1aba.toNat ((strOf []), ((strOf []), ()))).2).1)).2).1 = 1)))) then
                              some ((8, ()), ((), ((), ())))
                            else
                              rec1 ((((S_matP x0 (((x1.getD v1aba.toNat ((strOf []), ((strOf []), ()))).2).1)).2).1, (wrapI .i64 (v1aba + 1), ())), (setM .str .bool v1ba ((x1.getD v1aba.toNat ((strOf []), ((strOf []), ()))).1) true, ())))
                          else
                            rec1 ((((S_matP x0 (((x1.getD v1aba.toNat ((strOf []), ((strOf []), ()))).2).1)).2).1, (wrapI .i64 (v1aba + 1), ())), (setM .str .bool v1ba ((x1.getD v1aba.toNat ((strOf []), ((strOf []), ()))).1) true, ()))))))
                  else
                    (bif decide ((((S_matP x0 (((x1.getD v1aba.toNat ((strOf []), ((strOf []), ()))).2).1)).2).1 = 1)) then
                      (bif decide ((v1aa = 1)) then
                        (bif decide ((v1aa = 1)) then
                          some ((8, ()), ((), ((), ())))
                        else
                          rec1 ((((S_matP x0 (((x1.getD v1aba.toNat ((strOf []), ((strOf []), ()))).2).1)).2).1, (wrapI .i64 (v1aba + 1), ())), (setM .str .bool v1ba ((x1.getD v1aba.toNat ((strOf []), ((strOf []), ()))).1) true, ())))
                      else
                        (bif decide ((((S_matP x0 (((x1.getD v1aba.toNat ((strOf []), ((strOf []), ()))).2).1)).2).1 = 2)) then
                          (bif (!(decide ((v1aa = 0)))) then
                            (bif (!(decide ((v1aa = 1)))) then
                              (bif (!(decide ((v1aa = 1)))) then
                                some ((8, ()), ((), ((), ())))
                              else
                                rec1 ((((S_matP x0 (((x1.getD v1aba.toNat ((strOf []), ((strOf []), ()))).2).1)).2).1, (wrapI .i64 (v1aba + 1), ())), (setM .str .bool v1ba ((x1.getD v1aba.toNat ((strOf []), ((strOf []), ()))).1) true, ())))
                            else
                              (bif decide ((v1aa = 2)) then
                                (bif (!(decide ((((S_matP x0 (((x1.getD v1aba.toNat ((strOf []), ((strOf []), ()))).2).1)).2).1 = 1)))) then
                                  some ((8, ()), ((), ((), ())))
                                else
                                  rec1 ((((S_matP x0 (((x1.getD v1aba.toNat ((strOf []), ((strOf []), ()))).2).1)).2).1, (wrapI .i64 (v1aba + 1), ())), (setM .str .bool v1ba ((x1.getD v1aba.toNat ((strOf []), ((strOf []), ()))).1) true, ())))
                              else
                                rec1 ((((S_matP x0 (((x1.getD v1aba.toNat ((strOf []), ((strOf []), ()))).2).1)).2).1, (wrapI .i64 (v1aba + 1), ())), (setM .str .bool v1ba ((x1.getD v1aba.toNat ((strOf []), ((strOf []), ()))).1) true, ()))))
                          else
                            (bif decide ((v1aa = 2)) then
                              (bif (!(decide ((((S_matP x0 (((x1.getD v1aba.toNat ((strOf []), ((strOf []), ()))).2).1)).2).1 = 1)))) then
                                some ((8, ()), ((), ((), ())))
                              else
                                rec1 ((((S_matP x0 (((x1.getD v1aba.toNat ((strOf []), ((strOf []), ()))).2).1)).2).1, (wrapI .i64 (v1aba + 1), ())), (setM .str .bool v1ba ((x1.getD v1aba.toNat ((strOf []), ((strOf []), ()))).1) true, ())))
                            else
                              rec1 ((((S_matP x0 (((x1.getD v1aba.toNat ((strOf []), ((strOf []), ()))).2).1)).2).1, (wrapI .i64 (v1aba + 1), ())), (setM .str .bool v1ba ((x1.getD v1aba.toNat ((strOf []), ((strOf []), ()))).1) true, ()))))
                        else
                          (bif decide ((v1aa = 2)) then
                            (bif (!(decide ((((S_matP x0 (((x1.getD v1aba.toNat ((strOf []), ((strOf []), ()))).2).1)).2).1 = 1)))) then
                              some ((8, ()), ((), ((), ())))
                            else
                              rec1 ((((S_matP x0 (((x1.getD v1aba.toNat ((strOf []), ((strOf []), ()))).2).1)).2).1, (wrapI .i64 (v1aba + 1), ())), (setM .str .bool v1ba ((x1.getD v1aba.toNat ((strOf []), ((strOf []), ()))).1) true, ())))
                          else
                            rec1 ((((S_matP x0 (((x1.getD v1aba.toNat ((strOf []), ((strOf []), ()))).2).1)).2).1, (wrapI .i64 (v1aba + 1), ())), (setM .str .bool v1ba ((x1.getD v1aba.toNat ((strOf []), ((strOf []), ()))).1) true, ())))))
                    else
                      (bif decide ((((S_matP x0 (((x1.getD v1aba.toNat ((strOf []), ((strOf []), ()))).2).1)).2).1 = 2)) then
                        (bif (!(decide ((v1aa = 0)))) then
                          (bif (!(decide ((v1aa = 1)))) then
                            (bif (!(decide ((v1aa = 1)))) then
                              some ((8, ()), ((), ((), ())))
                            else
                              rec1 ((((S_matP x0 (((x1.getD v1aba.toNat ((strOf []), ((strOf []), ()))).2).1)).2).1, (wrapI .i64 (v1aba + 1), ())), (setM .str .bool v1ba ((x1.getD v1aba.toNat ((strOf []), ((strOf []), ()))).1) true, ())))
                          else
                            (bif decide ((v1aa = 2)) then
                              (bif (!(decide ((((S_matP x0 (((x1.getD v1aba.toNat ((strOf []), ((strOf []), ()))).2).1)).2).1 = 1)))) then
                                some ((8, ()), ((), ((), ())))
                              else
                                rec1 ((((S_matP x0 (((x1.getD v1aba.toNat ((strOf []), ((strOf []), ()))).2).1)).2).1, (wrapI .i64 (v1aba + 1), ())), (setM .str .bool v1ba ((x1.getD v1aba.toNat ((strOf []), ((strOf []), ()))).1) true, ())))
                            else
                              rec1 ((((S_matP x0 (((x1.getD v1aba.toNat ((strOf []), ((strOf []), ()))).2).1)).2).1, (wrapI .i64 (v1aba + 1), ())), (setM .str .bool v1ba ((x1.getD v1aba.toNat ((strOf []), ((strOf []), ()))).1) true, ()))))
                        else
                          (bif decide ((v1aa = 2)) then
                            (bif (!(decide ((((S_matP x0 (((x1.getD v1aba.toNat ((strOf []), ((strOf []), ()))).2).1)).2).1 = 1)))) then
                              some ((8, ()), ((), ((), ())))
                            else
                              rec1 ((((S_matP x0 (((x1.getD v1aba.toNat ((strOf []), ((strOf []), ()))).2).1)).2).1, (wrapI .i64 (v1aba + 1), ())), (setM .str .bool v1ba ((x1.getD v1aba.toNat ((strOf []), ((strOf []), ()))).1) true, ())))
                          else
                            rec1 ((((S_matP x0 (((x1.getD v1aba.toNat ((strOf []), ((strOf []), ()))).2).1)).2).1, (wrapI .i64 (v1aba + 1), ())), (setM .str .bool v1ba ((x1.getD v1aba.toNat ((strOf []), ((strOf []), ()))).1) true, ()))))
                      else
                        (bif decide ((v1aa = 2)) then
                          (bif (!(decide ((((S_matP x0 (((x1.getD v1aba.toNat ((strOf []), ((strOf []), ()))).2).1)).2).1 = 1)))) then
                            some ((8, ()), ((), ((), ())))
                          else
                            rec1 ((((S_matP x0 (((x1.getD v1aba.toNat ((strOf []), ((strOf []), ()))).2).1)).2).1, (wrapI .i64 (v1aba + 1), ())), (setM .str .bool v1ba ((x1.getD v1aba.toNat ((strOf []), ((strOf []), ()))).1) true, ())))
                        else
                          rec1 ((((S_matP x0 (((x1.getD v1aba.toNat ((strOf []), ((strOf []), ()))).2).1)).2).1, (wrapI .i64 (v1aba + 1), ())), (setM .str .bool v1ba ((x1.getD v1aba.toNat ((strOf []), ((strOf []), ()))).1) true, ())))))))))
          else
            none)
        else
          ((S_cusO_stack_coppers x0 x1).bind fun ((r2aa, ()), ((), ((), ()))) =>
          (bif decide ((((r2aa.length : Nat) : Int) < 2)) then
            some ((3, ()), ((), ((), ())))
          else
            (bif inB 0 x1.length then
              (bif (!(decide ((S_kindP x0 (x1.getD 0 ((strOf []), ((strOf []), ()))) = 1)))) then
                some ((3, ()), ((), ((), ())))
              else
                (bif inB (wrapI .i64 (((x1.length : Nat) : Int) - 1)) x1.length then
                  (bif (!(decide ((S_kindP x0 (x1.getD ((wrapI .i64 (((x1.length : Nat) : Int) - 1)).toNat) ((strOf []), ((strOf []), ()))) = 1)))) then
                    some ((3, ()), ((), ((), ())))
                  else
                    some ((0, ()), ((), ((), ()))))
                else
                  none))
            else
              none)))))
      n ((0, (0, ())), ([], ()))))
theorem B_stack_CheckStack_eq (n : Nat) (x0 : List (ByteArray × (Int × (Int × (Int × Unit))))) (x1 : List (ByteArray × (ByteArray × Unit))) : bodyE ty T_stack_CheckStack n I_stack_CheckStack (x0, (x1, ())) = B_stack_CheckStack n x0 x1 := by kernel_rfl

end Go.Proofs.Ytimaiganehbglaa
namespace Go.Proofs.Ytimaiganehbglaa
open Go Go.VM
def layI (m : List Mat) (s : List Lay) (i : Nat) (t : Int × List (ByteArray × Bool)) : Prop :=
  t.1 = (bif decide (i = 0) then 0 else S_kindR m (s.getD (i - 1) lay0)) ∧ (0 < i → t.1 ≠ 0) ∧ ∀ z, lookM .str .bool t.2 z = (s.take i).any (fun x => decide (x.1 = z))
theorem ok_stack_CheckStack (x0 : List Mat) (x1 : List Lay) (hok : OkA I_stack_CheckStack.args (x0, x1, ())) : ∃ n, bodyE ty T_stack_CheckStack n I_stack_CheckStack (x0, x1, ()) = some ((S_chkS x0 x1, ()), ((), (), ())) := ⟨x1.length + 1, by
  have hl : x1.length ≤ maxLen := hok.2.1.1
  rw [B_stack_CheckStack_eq]
  unfold B_stack_CheckStack S_chkS
  cases hM : decide (S_chkM x0 = 0) with
  | false => rfl
  | true =>
  have hM := of_decide_eq_true hM
  simp only [Bool.not_true, cond_false, cond_true]
  cases h6 : decide ((60 : Int) < (x1.length : Int)) with
  | true => rfl
  | false =>
  have h6 := of_decide_eq_false h6
  simp only [cond_false]
  refine (loop_listI (l := x1) (fun i (s : Int × List (ByteArray × Bool)) => ((s.1, (i, ())), (s.2, ()))) (layI x0 x1) (fun a i s => bif decide (layC x0 x1 a i = 0) then .inl (S_kindR x0 a, setM .str .bool s.2 a.1 true) else .inr (some ((layC x0 x1 a i, ()), ((), (), ())))) (fun _ => some ((bif S_form x0 x1 then 0 else 3, ()), ((), (), ()))) (fun i h s hI => ⟨fun s' e => ?_, fun rec => ?_⟩) (fun s _ rec => ?_) (Nat.lt_succ_self _) (s := (0, [])) ⟨rfl, fun h => absurd h (Nat.lt_irrefl _), fun z => rfl⟩).trans ?_
  · cases hc : decide (layC x0 x1 x1[i] i = 0) with
    | false => rw [hc] at e; cases e
    | true =>
      rw [hc, cond_true] at e
      cases e
      refine ⟨?_, fun _ h0 => ?_, fun z => ?_⟩
      · rw [decide_eq_false (show ¬ i + 1 = 0 by omega), cond_false, Nat.add_sub_cancel, getD_at h]
      · have hc := of_decide_eq_true hc
        unfold layC at hc
        rw [decide_eq_true h0, cond_true] at hc
        cases hc
      · show lookM .str .bool (setM .str .bool s.2 x1[i].1 true) z = _
        rw [lookM_setM rfl, take_any h, hI.2.2 z]
        have : Ty.eqv .str z x1[i].1 = decide (x1[i].1 = z) := by rw [Bool.eq_iff_iff, eqv_iff (t := .str) rfl]; simp only [decide_eq_true_eq]; exact eq_comm
        rw [this]
        cases decide (x1[i].1 = z) <;> cases (x1.take i).any (fun x => decide (x.1 = z)) <;> rfl
  · obtain ⟨b, mp⟩ := s
    obtain ⟨h1, h2, h3⟩ := hI
    simp only at h1 h2 h3
    have hlk : lookM .str .bool mp x1[i].1 = (x1.take i).any (fun x => decide (x.1 = x1[i].1)) := h3 _
    simp only [lt_nat h, inB_nat h, getD_lt h, succ64 h hl, cond_true, (matP_eq hM _).1, (matP_eq hM _).2, str_dec, hlk]
    unfold layC S_kindR
    generalize (x1.take i).any (fun x => decide (x.1 = x1[i].1)) = tw
    generalize S_word x1[i].1 = w
    generalize decide (x1[i].1 = strOf []) = em
    generalize (S_matR x0 x1[i].2.1).2.1 = k
    by_cases h0 : i = 0
    · subst h0
      have hb : b = 0 := h1
      subst hb
      simp only [decide_true, cond_true]
      cases decide (k = 0) with
      | true => rfl
      | false => cases decide (k = 1) <;> cases decide (k = 2) <;> cases w <;> cases em <;> cases tw <;> rfl
    · rw [decide_eq_false h0, cond_false] at h1
      have hb : decide (b = 0) = false := decide_eq_false (h2 (by omega))
      have h1' : (S_matR x0 (x1.getD (i - 1) lay0).2.1).2.1 = b := h1.symm
      simp only [decide_eq_false h0, hb, cond_false, h1']
      cases decide (k = 0) with
      | true => rfl
      | false =>
        cases decide (k = 1) with
        | true => cases w <;> cases tw <;> cases decide (b = 1) <;> cases decide (b = 2) <;> cases decide (k = 2) <;> rfl
        | false => cases em <;> cases decide (b = 1) <;> cases decide (b = 2) <;> cases decide (k = 2) <;> rfl
  · have c1 : decide (x1.length ≤ 4294967296) = true := decide_eq_true (by omega)
    simp only [lt_self, cond_false]
    unfold S_cusO_stack_coppers
    rw [c1, cond_true, cusP_eq hM]
    simp only [kindP_eq hM, Option.bind_some]
    unfold S_form S_isCuR
    have hle : (S_cusR x0 x1).length ≤ x1.length := idxP_len _ _
    by_cases h2 : ((S_cusR x0 x1).length : Int) < 2
    · rw [decide_eq_true h2, decide_eq_false (show ¬ (2 : Int) ≤ ((S_cusR x0 x1).length : Int) by omega)]; rfl
    · have e2 : wrapI .i64 ((x1.length : Int) - 1) = ((x1.length - 1 : Nat) : Int) := by rw [wrap64 (by omega) (by omega)]; omega
      have e3 : inB (0 : Int) x1.length = true := inB_nat (i := 0) (by omega)
      rw [decide_eq_false h2, decide_eq_true (show (2 : Int) ≤ ((S_cusR x0 x1).length : Int) by omega), e2, e3, inB_nat (show x1.length - 1 < x1.length by omega), Int.toNat_natCast]
      change (bif !decide (S_kindR x0 (x1.getD 0 lay0) = 1) then _ else _) = _
      cases decide (S_kindR x0 (x1.getD 0 lay0) = 1) with
      | false => rfl
      | true =>
        change (bif !decide (S_kindR x0 (x1.getD (x1.length - 1) lay0) = 1) then _ else _) = _
        cases decide (S_kindR x0 (x1.getD (x1.length - 1) lay0) = 1) <;> rfl
  · rw [first_goS (f := layC x0 x1) (R := fun a => some ((a, ()), ((), (), ())))]
    cases decide (firstC (layC x0 x1) x1 0 = 0) <;> rfl⟩
noncomputable def E_stack_CheckStack : Entry Try.prog := Entry.of tok T_stack_CheckStack I_stack_CheckStack it_stack_CheckStack (fun (x0, x1, ()) => some ((S_chkS x0 x1, ()), ((), (), ()))) (fun (x0, x1, ()) r hok h => by cases h; exact ok_stack_CheckStack x0 x1 hok)

end Go.Proofs.Ytimaiganehbglaa
namespace Go.Proofs.Ytimaiganehbglaa
open Go Go.VM
/-! ### etchhouse.stack.fewest -/
noncomputable def I_stack_fewest : Inst := ⟨50, Try.f50, .two (.reg []) (.two (.reg []) (.two (.reg []) (.two (.two (.reg []) (.one (.loop ⟨[(6, .pv i)], [(5, ⟨(.own (.own .flat)), (.sl (.sl (.int .i16))), false, false⟩)], [0, 1, 5], []⟩ (.two (.two (.reg []) (.two (.leaf) (.leaf))) (.two (.one (.two (.reg []) (.two (.reg []) (.two (.two (.reg []) (.one (.loop ⟨[(47, .pv i)], [(8, ⟨(.own .flat), (.sl (.int .i16)), false, false⟩)], [0, 1, 5, 6, 7, 8, 46], [5]⟩ (.two (.reg []) (.two (.two (.leaf) (.leaf)) (.two (.one (.two (.reg []) (.reg []))) (.reg []))))))) (.two (.two (.reg []) (.one (.loop ⟨[(56, .pv i)], [(8, ⟨(.own .flat), (.sl (.int .i16)), false, false⟩)], [0, 1, 5, 6, 8, 54, 55], [5]⟩ (.two (.reg []) (.two (.two (.leaf) (.leaf)) (.two (.one (.two (.reg []) (.two (.two (.reg []) (.two (.leaf) (.leaf))) (.two (.reg []) (.one (.loop ⟨[(12, .pv i)], [(8, ⟨(.own .flat), (.sl (.int .i16)), false, false⟩)], [0, 1, 5, 6, 8, 10, 11, 54, 55, 56], [5]⟩ (.two (.two (.reg []) (.two (.leaf) (.leaf))) (.two (.one (.two (.reg []) (.two (.reg []) (.two (.reg []) (.leaf))))) (.reg []))))))))) (.reg []))))))) (.reg [])))))) (.reg [])))))) (.two (.reg []) (.leaf))))), (.cons (.pv (.sl i)) (.cons (.pv i) .nil)), (.cons (.own (.own .flat)) (.sl (.sl (.int .i16))) .nil)⟩
theorem it_stack_fewest : InTab Try.prog I_stack_fewest := ⟨Try.func50, by kernel_rfl, rfl⟩
noncomputable def T_stack_fewest : Nat → Entry Try.prog := nth (Entry.no Try.f0) []
noncomputable def B_stack_fewest (n : Nat) (x0 : List Int) (x1 : Int) : Option (((List (List Int) × Unit) × (Unit × (Unit × Unit)))) :=
  (bif ((decide ((0 ≤ wrapI .i64 (((x0.length : Nat) : Int) + 1))) && decide ((wrapI .i64 (((x0.length : Nat) : Int) + 1) ≤ wrapI .i64 (((x0.length : Nat) : Int) + 1)))) && decide ((wrapI .i64 (((x0.length : Nat) : Int) + 1) ≤ 4294967296))) then
    (bif inB ((x0.length : Nat) : Int) ((List.replicate (α := List Int) ((wrapI .i64 (((x0.length : Nat) : Int) + 1)).toNat) []).length) then
      loopN (fun rec1 => fun
      | ((v1aa, ()), (v1ba, ())) =>
        (bif decide ((0 ≤ v1aa)) then
          (bif inB (wrapI .i64 (v1aa + 1)) v1ba.length then
            (bif inB v1aa x0.length then
              (bif ((decide ((0 ≤ wrapI .i64 ((((v1ba.getD ((wrapI .i64 (v1aa + 1)).toNat) []).length : Nat) : Int) + wrapI .i64 (x1 * x0.getD v1aa.toNat (0 : Int))))) && decide ((((wrapI .i64 ((((v1ba.getD ((wrapI .i64 (v1aa + 1)).toNat) []).length : Nat) : Int) + wrapI .i64 (x1 * x0.getD v1aa.toNat (0 : Int)))) : Int) ≤ wrapI .i64 ((((v1ba.getD ((wrapI .i64 (v1aa + 1)).toNat) []).length : Nat) : Int) + wrapI .i64 (x1 * x0.getD v1aa.toNat (0 : Int)))))) && decide ((((wrapI .i64 ((((v1ba.getD ((wrapI .i64 (v1aa + 1)).toNat) []).length : Nat) : Int) + wrapI .i64 (x1 * x0.getD v1aa.toNat (0 : Int)))) : Int) ≤ 4294967296))) then
                loopN (fun rec2 => fun
                | ((v2aa, ()), (v2ba, ())) =>
                  (bif decide ((v2aa < (((List.replicate (α := Int) ((wrapI .i64 ((((v1ba.getD ((wrapI .i64 (v1aa + 1)).toNat) []).length : Nat) : Int) + wrapI .i64 (x1 * x0.getD v1aa.toNat (0 : Int)))).toNat) 0).length : Nat) : Int))) then
                    (bif inB v2aa v2ba.length then
                      rec2 ((wrapI .i64 (v2aa + 1), ()), (v2ba.set v2aa.toNat (-1), ()))
                    else
                      none)
                  else
                    loopN (fun rec3 => fun
                    | ((v3aa, ()), (v3ba, ())) =>
                      (bif decide ((v3aa < (((v1ba.getD ((wrapI .i64 (v1aa + 1)).toNat) []).length : Nat) : Int))) then
                        (bif inB v3aa ((v1ba.getD ((wrapI .i64 (v1aa + 1)).toNat) []).length) then
                          (bif decide (((((v1ba.getD ((wrapI .i64 (v1aa + 1)).toNat) []).getD v3aa.toNat (0 : Int)) : Int) < 0)) then
                            rec3 ((wrapI .i64 (v3aa + 1), ()), (v3ba, ()))
                          else
                            loopN (fun rec4 => fun
                            | ((v4aa, ()), (v4ba, ())) =>
                              (bif decide ((v4aa ≤ x1)) then
                                (bif inB v1aa x0.length then
                                  (bif inB (wrapI .i64 (v3aa + wrapI .i64 (v4aa * x0.getD v1aa.toNat (0 : Int)))) v4ba.length then
                                    (bif decide ((((v4ba.getD ((wrapI .i64 (v3aa + wrapI .i64 (v4aa * x0.getD v1aa.toNat (0 : Int)))).toNat) (0 : Int)) : Int) < 0)) then
                                      rec4 ((wrapI .i64 (v4aa + 1), ()), (v4ba.set ((wrapI .i64 (v3aa + wrapI .i64 (v4aa * x0.getD v1aa.toNat (0 : Int)))).toNat) (wrapI .i16 ((v1ba.getD ((wrapI .i64 (v1aa + 1)).toNat) []).getD v3aa.toNat (0 : Int) + wrapI .i16 v4aa)), ()))
                                    else
                                      (bif decide ((((wrapI .i16 ((v1ba.getD ((wrapI .i64 (v1aa + 1)).toNat) []).getD v3aa.toNat (0 : Int) + wrapI .i16 v4aa)) : Int) < v4ba.getD ((wrapI .i64 (v3aa + wrapI .i64 (v4aa * x0.getD v1aa.toNat (0 : Int)))).toNat) (0 : Int))) then
                                        rec4 ((wrapI .i64 (v4aa + 1), ()), (v4ba.set ((wrapI .i64 (v3aa + wrapI .i64 (v4aa * x0.getD v1aa.toNat (0 : Int)))).toNat) (wrapI .i16 ((v1ba.getD ((wrapI .i64 (v1aa + 1)).toNat) []).getD v3aa.toNat (0 : Int) + wrapI .i16 v4aa)), ()))
                                      else
                                        rec4 ((wrapI .i64 (v4aa + 1), ()), (v4ba, ()))))
                                  else
                                    none)
                                else
                                  none)
                              else
                                rec3 ((wrapI .i64 (v3aa + 1), ()), (v4ba, ()))))
                            n ((1, ()), (v3ba, ())))
                        else
                          none)
                      else
                        (bif inB v1aa v1ba.length then
                          rec1 ((wrapI .i64 (v1aa - 1), ()), (v1ba.set v1aa.toNat v3ba, ()))
                        else
                          none)))
                    n ((0, ()), (v2ba, ()))))
                n ((0, ()), (List.replicate (α := Int) ((wrapI .i64 ((((v1ba.getD ((wrapI .i64 (v1aa + 1)).toNat) []).length : Nat) : Int) + wrapI .i64 (x1 * x0.getD v1aa.toNat (0 : Int)))).toNat) 0, ()))
              else
                none)
            else
              none)
          else
            none)
        else
          some ((v1ba, ()), ((), ((), ())))))
      n ((wrapI .i64 (((x0.length : Nat) : Int) - 1), ()), ((List.replicate (α := List Int) ((wrapI .i64 (((x0.length : Nat) : Int) + 1)).toNat) []).set (((x0.length : Nat) : Int).toNat) [0], ()))
    else
      none)
  else
    none)
theorem B_stack_fewest_eq (n : Nat) (x0 : List Int) (x1 : Int) : bodyE ty T_stack_fewest n I_stack_fewest (x0, (x1, ())) = B_stack_fewest n x0 x1 := by kernel_rfl

end Go.Proofs.Ytimaiganehbglaa
namespace Go.Proofs.Ytimaiganehbglaa
open Go Go.VM
def S_fewO (x0 : List Int) (x1 : Int) : Option ((List (List Int) × Unit) × Unit × Unit × Unit) := bif S_fewOk x0 x1 then some ((tabF x1.toNat x0, ()), ((), (), ())) else none
theorem ok_stack_fewest (x0 : List Int) (x1 : Int) (hok : OkA I_stack_fewest.args (x0, x1, ())) (r) (h : S_fewO x0 x1 = some r) : ∃ n, bodyE ty T_stack_fewest n I_stack_fewest (x0, x1, ()) = some r := by
  obtain ⟨N, hN⟩ : ∃ N, N = 1000000 := ⟨_, rfl⟩
  refine ⟨N, ?_⟩
  rw [B_stack_fewest_eq, ← h]
  unfold S_fewO at h ⊢
  cases hd : S_fewOk x0 x1 with
  | false => rw [hd] at h; cases h
  | true =>
  obtain ⟨h60, hg, hm1, hm8⟩ := fewOk_is hd
  obtain ⟨m, rfl⟩ : ∃ m : Nat, x1 = (m : Int) := ⟨x1.toNat, by omega⟩
  rw [cond_true, Int.toNat_natCast]
  unfold B_stack_fewest
  have w0 : wrapI .i64 (((x0.length : Nat) : Int) + 1) = ((x0.length + 1 : Nat) : Int) := (wrap64 (by omega) (by omega)).trans (by omega)
  have wm : wrapI .i64 (((x0.length : Nat) : Int) - 1) = ((x0.length : Nat) : Int) - 1 := wrap64 (by omega) (by omega)
  have c0 : decide ((0 : Int) ≤ ((x0.length + 1 : Nat) : Int)) = true := decide_eq_true (by omega)
  have c1 : decide (((x0.length + 1 : Nat) : Int) ≤ ((x0.length + 1 : Nat) : Int)) = true := decide_eq_true (by omega)
  have c2 : decide (((x0.length + 1 : Nat) : Int) ≤ 4294967296) = true := decide_eq_true (by omega)
  simp only [w0, wm, c0, c1, c2, Bool.and_self, cond_true, Int.toNat_natCast, List.length_replicate, inB_nat (Nat.lt_succ_self x0.length)]
  refine loop_meas (fun x => ∃ (i : Nat) (T : List (List Int)), i ≤ x0.length ∧ T.length = x0.length + 1 ∧ (∀ j, i ≤ j → j ≤ x0.length → T.getD j [] = fewF m (x0.drop j)) ∧ x = (((i : Int) - 1, ()), (T, ()))) (fun x => (x.1.1 + 1).toNat) _ ?_ N _ ⟨x0.length, _, Nat.le_refl _, by simp, fun j h1 h2 => ?_, rfl⟩ ?_
  · rintro _ ⟨i, T, h1, h2, h3, rfl⟩
    cases i with
    | zero =>
      left
      intro rec
      have : decide (0 ≤ ((0 : Nat) : Int) - 1) = false := rfl
      simp only [this, cond_false]
      have : T = tabF m x0 := ext_getD (d := []) (by rw [h2, tabF_length]) fun t ht => by rw [h3 t (Nat.zero_le _) (by omega), tabF_at (by omega)]
      rw [this]
    | succ k =>
      right
      have e : ((k + 1 : Nat) : Int) - 1 = (k : Int) := by omega
      rw [e]
      have hk : k < x0.length := by omega
      obtain ⟨a1, a2⟩ := hg _ (List.getElem_mem hk)
      obtain ⟨g, hgk⟩ : ∃ g : Nat, x0[k] = (g : Int) := ⟨x0[k].toNat, by omega⟩
      have hgd : x0.getD k 0 = (g : Int) := by rw [getD_at hk, hgk]
      have hdr : x0.drop k = (g : Int) :: x0.drop (k + 1) := by rw [List.drop_eq_getElem_cons hk, hgk]
      obtain ⟨af, haf⟩ : ∃ af, af = fewF m (x0.drop (k + 1)) := ⟨_, rfl⟩
      have hr : T.getD (k + 1) [] = af := by rw [haf]; exact h3 _ (Nat.le_refl _) h1
      have hlen : af.length ≤ 944001 := by
        obtain ⟨c, hc⟩ : ∃ c : Nat, c = 2000 := ⟨_, rfl⟩
        have hsum : sumF (x0.drop (k + 1)) ≤ (x0.drop (k + 1)).length * c := sumF_le (b := c) _ fun x hx => by have := (hg x (List.mem_of_mem_drop hx)).2; omega
        rw [List.length_drop] at hsum
        have h59 : (x0.length - (k + 1)) * c ≤ 59 * c := Nat.mul_le_mul_right c (by omega)
        rw [haf, fewF_len]
        have : m * sumF (x0.drop (k + 1)) ≤ 8 * (59 * c) := Nat.mul_le_mul (by omega) (by omega)
        omega
      have hval : ∀ t, t < af.length → -1 ≤ af.getD t 0 ∧ af.getD t 0 ≤ 480 := fun t ht => by
        have := fewF_val m (x0.drop (k + 1)) t (by rw [← haf]; exact ht)
        rw [← haf] at this
        have h8 : m * (x0.drop (k + 1)).length ≤ 8 * 60 := Nat.mul_le_mul (by omega) (by rw [List.length_drop]; omega)
        omega
      have hmg : m * g ≤ 8 * 2000 := Nat.mul_le_mul (by omega) (by omega)
      obtain ⟨L, hL⟩ : ∃ L, L = af.length + m * g := ⟨_, rfl⟩
      have hmg2 : ((m : Int) * (g : Int)) = ((m * g : Nat) : Int) := (Int.natCast_mul m g).symm
      have w1 : wrapI .i64 (((k : Nat) : Int) + 1) = ((k + 1 : Nat) : Int) := (wrap64 (by omega) (by omega)).trans (by omega)
      have w2 : wrapI .i64 (((k : Nat) : Int) - 1) = ((k : Nat) : Int) - 1 := wrap64 (by omega) (by omega)
      have w3 : wrapI .i64 (((af.length : Nat) : Int) + wrapI .i64 ((m : Int) * (g : Int))) = (L : Int) := by
        rw [hmg2, wrap64 (n := ((m * g : Nat) : Int)) (by omega) (by omega), wrap64 (by omega) (by omega)]; omega
      refine ⟨(((k : Int) - 1, ()), (T.set k (fewF m (x0.drop k)), ())), ⟨k, _, by omega, by rw [List.length_set]; exact h2, fun j j1 j2 => ?_, rfl⟩, ?_, fun rec1 => ?_⟩
      · by_cases e : j = k
        · subst e
          rw [getD_set (by omega), if_pos rfl]
        · rw [getD_set (by omega), if_neg e]; exact h3 j (by omega) j2
      · show ((k : Int) - 1 + 1).toNat < ((k : Int) + 1).toNat
        omega
      · have hd : decide (0 ≤ (k : Int)) = true := decide_eq_true (by omega)
        have i1 : inB ((k + 1 : Nat) : Int) T.length = true := inB_nat (by omega)
        have i2 : inB (k : Int) T.length = true := inB_nat (by omega)
        have d0 : decide ((0 : Int) ≤ (L : Int)) = true := decide_eq_true (by omega)
        have d1 : decide ((L : Int) ≤ (L : Int)) = true := decide_eq_true (by omega)
        have d2 : decide ((L : Int) ≤ 4294967296) = true := decide_eq_true (by omega)
        have ik : inB ((k : Nat) : Int) x0.length = true := inB_nat hk
        simp only [hd, w1, w2, i1, i2, ik, cond_true, Int.toNat_natCast, hr, hgd, w3, d0, d1, d2, Bool.and_self, List.length_replicate]
        apply Eq.trans
        · apply loop_upto (fun i (now : List Int) => ((i, ()), (now, ()))) (fun i now => now.length = L ∧ ∀ t, t < i → now.getD t 0 = -1) (fun i now => now.set i (-1)) _ L (d := L) (i := 0)
          · intro i s hi hI
            have j1 : inB (i : Int) s.length = true := inB_nat (by omega)
            have j2 : decide ((i : Int) < (L : Int)) = true := decide_eq_true (by omega)
            have j3 : wrapI .i64 (((i : Nat) : Int) + 1) = ((i + 1 : Nat) : Int) := (wrap64 (by omega) (by omega)).trans (by omega)
            refine ⟨⟨by rw [List.length_set]; exact hI.1, fun t ht => ?_⟩, fun rec2 => ?_⟩
            · rw [getD_set (by omega)]
              by_cases e : t = i
              · rw [if_pos e]
              · rw [if_neg e]; exact hI.2 t (by omega)
            · simp only [j1, j2, j3, cond_true, Int.toNat_natCast]
          · intro s hI rec2
            have : decide ((L : Int) < (L : Int)) = false := by simp
            simp only [this, cond_false]
            rfl
          · omega
          · omega
          · exact ⟨by simp, fun t ht => absurd ht (Nat.not_lt_zero _)⟩
        · have hfill : foldN (fun i (now : List Int) => now.set i (-1)) L 0 (List.replicate L 0) = List.replicate L (-1) := by
            have := foldN_inv (f := fun i (now : List Int) => now.set i (-1)) (fun i now => now.length = L ∧ ∀ t, t < i → now.getD t 0 = -1) L 0 (List.replicate L 0) ⟨by simp, fun t ht => absurd ht (Nat.not_lt_zero _)⟩ fun j s _ hj hI => ⟨by rw [List.length_set]; exact hI.1, fun t ht => by
              rw [getD_set (by omega)]
              by_cases e : t = j
              · rw [if_pos e]
              · rw [if_neg e]; exact hI.2 t (by omega)⟩
            refine ext_getD (d := 0) (by rw [this.1, List.length_replicate]) fun t ht => ?_
            rw [this.1] at ht
            rw [this.2 t (by omega), List.getD_eq_getElem?_getD, List.getElem?_replicate, if_pos ht]
            rfl
          rw [hfill]
          apply Eq.trans
          · apply loop_fold (l := af) (fun i (now : List Int) => ((i, ()), (now, ()))) (fun i now => now.length = L) (rowS g m) _
            · intro i hi s hI
              refine ⟨?_, fun rec3 => ?_⟩
              · show (rowS g m af[i] i s).length = L
                unfold rowS
                cases decide (af[i] < 0) with
                | true => exact hI
                | false =>
                  have := foldN_inv (f := fun k now => putF (af[i] + k) (i + k * g) now) (fun _ s => s.length = L) m 1 s hI fun j s _ _ hI => (putF_len ..).trans hI
                  exact this
              · have j1 : inB (i : Int) af.length = true := inB_nat hi
                have j3 : wrapI .i64 (((i : Nat) : Int) + 1) = ((i + 1 : Nat) : Int) := (wrap64 (by omega) (by omega)).trans (by omega)
                have j4 : af.getD i 0 = af[i] := getD_at hi
                have hv := hval i hi
                rw [j4] at hv
                simp only [lt_nat hi, j1, j3, j4, cond_true, Int.toNat_natCast]
                unfold rowS
                cases hneg : decide (af[i] < 0) with
                | true => rfl
                | false =>
                  have hneg := of_decide_eq_false hneg
                  simp only [cond_false]
                  refine loop_upto (fun i (now : List Int) => ((i, ()), (now, ()))) (fun _ now => now.length = L) (fun k now => putF (af[i] + k) (i + k * g) now) (fun now => rec3 ((((i + 1 : Nat) : Int), ()), (now, ()))) (m + 1) (fun b s hb hI => ⟨(putF_len ..).trans hI, fun rec4 => ?_⟩) (fun s hI rec4 => ?_) m 1 N s (by omega) (by omega) hI
                  · have q1 : decide ((b : Int) ≤ (m : Int)) = true := decide_eq_true (by omega)
                    have hbg : b * g ≤ m * g := Nat.mul_le_mul_right g (by omega)
                    have q2 : wrapI .i64 ((i : Int) + wrapI .i64 ((b : Int) * (g : Int))) = ((i + b * g : Nat) : Int) := by
                      rw [← Int.natCast_mul, wrap64 (n := ((b * g : Nat) : Int)) (by omega) (by omega), wrap64 (by omega) (by omega)]; omega
                    have q3 : wrapI .i16 (af[i] + wrapI .i16 (b : Int)) = af[i] + b := by
                      rw [wrap16 (n := (b : Int)) (by omega) (by omega), wrap16 (by omega) (by omega)]
                    have q4 : inB ((i + b * g : Nat) : Int) s.length = true := inB_nat (by omega)
                    have q5 : wrapI .i64 (((b : Nat) : Int) + 1) = ((b + 1 : Nat) : Int) := (wrap64 (by omega) (by omega)).trans (by omega)
                    simp only [q1, q2, q3, q4, q5, cond_true, Int.toNat_natCast]
                    unfold putF
                    cases decide (s.getD (i + b * g) 0 < 0) <;> cases decide (af[i] + (b : Int) < s.getD (i + b * g) 0) <;> rfl
                  · have q1 : decide (((m + 1 : Nat) : Int) ≤ (m : Int)) = false := decide_eq_false (by omega)
                    simp only [q1, cond_false]
            · intro s hI rec3
              simp only [lt_self, cond_false]
              rfl
            · omega
            · simp
          · have : foldI (rowS g m) af 0 (List.replicate L (-1)) = fewF m (x0.drop k) := by
              rw [hdr, fewF, ← haf, Int.toNat_natCast, hL]; rfl
            rw [this]
  · obtain rfl : j = x0.length := by omega
    rw [getD_set (by simp), if_pos rfl, List.drop_length]
    rfl
  · show (((x0.length : Nat) : Int) - 1 + 1).toNat < N
    omega
noncomputable def E_stack_fewest : Entry Try.prog := Entry.of tok T_stack_fewest I_stack_fewest it_stack_fewest (fun (x0, x1, ()) => S_fewO x0 x1) (fun (x0, x1, ()) r hok h => ok_stack_fewest x0 x1 hok r h)

end Go.Proofs.Ytimaiganehbglaa
namespace Go.Proofs.Ytimaiganehbglaa
open Go Go.VM
/-! ### etchhouse.stack.Nearest$1 -/
noncomputable def I_stack_Nearest_1_io_io : Inst := ⟨51, Try.f51, .two (.reg []) (.two (.reg []) (.leaf)), (.cons (.pv i) (.cons (.io .flat i) (.cons (.io .flat i) .nil))), (.cons .flat i .nil)⟩
theorem it_stack_Nearest_1_io_io : InTab Try.prog I_stack_Nearest_1_io_io := ⟨Try.func51, by kernel_rfl, rfl⟩
noncomputable def T_stack_Nearest_1_io_io : Nat → Entry Try.prog := nth (Entry.no Try.f0) []
noncomputable def B_stack_Nearest_1_io_io (x0 : Int) (x1 : Int) (x2 : Int) : Option (((Int × Unit) × (Unit × (Int × (Int × Unit))))) :=
  some (((bif decide ((wrapI .i64 (wrapI .i64 (x1 + x0) - x2) < wrapI .i64 (wrapI .i64 (x2 - x1) - x0))) then wrapI .i64 (wrapI .i64 (x2 - x1) - x0) else wrapI .i64 (wrapI .i64 (x1 + x0) - x2)), ()), ((), (x1, (x2, ()))))
theorem B_stack_Nearest_1_io_io_eq (n : Nat) (x0 : Int) (x1 : Int) (x2 : Int) : bodyE ty T_stack_Nearest_1_io_io n I_stack_Nearest_1_io_io (x0, (x1, (x2, ()))) = B_stack_Nearest_1_io_io x0 x1 x2 := by kernel_rfl

end Go.Proofs.Ytimaiganehbglaa
namespace Go.Proofs.Ytimaiganehbglaa
open Go Go.VM
noncomputable def E_stack_Nearest_1_io_io : Entry Try.prog := Entry.of tok T_stack_Nearest_1_io_io I_stack_Nearest_1_io_io it_stack_Nearest_1_io_io (fun x => B_stack_Nearest_1_io_io x.1 x.2.1 x.2.2.1) (fun (a0, a1, a2, ()) r _ h => ⟨0, (B_stack_Nearest_1_io_io_eq 0 a0 a1 a2).trans h⟩)

end Go.Proofs.Ytimaiganehbglaa
namespace Go.Proofs.Ytimaiganehbglaa
open Go Go.VM
/-! ### etchhouse.stack.Nearest -/
noncomputable def I_stack_Nearest : Inst := ⟨27, Try.f27, .two (.reg []) (.two (.two (.reg [(2, 0)]) (.two (.reg []) (.two (.two (.reg []) (.leaf)) (.leaf)))) (.two (.two (.reg [(1, 1), (5, 1)]) (.two (.two (.reg []) (.leaf)) (.leaf))) (.two (.reg []) (.two (.reg []) (.two (.two (.reg []) (.one (.loop ⟨[(12, .st (.at (.rf 12 []))), (44, .pv i)], [(12, ⟨(.own .flat), (.sl i), false, false⟩), (13, ⟨.flat, i, true, false⟩)], [0, 2, 7, 13, 42, 43], [7]⟩ (.two (.reg []) (.two (.two (.leaf) (.leaf)) (.two (.one (.two (.reg []) (.two (.reg [(3, 2)]) (.two (.reg []) (.two (.reg []) (.reg [])))))) (.reg []))))))) (.two (.reg [(2, 3)]) (.two (.reg []) (.two (.two (.reg []) (.one (.loop ⟨[(19, .pv i), (75, .pv i)], [(7, ⟨.flat, i, true, false⟩), (13, ⟨.flat, i, true, false⟩)], [7, 12, 13, 18, 73, 74], [12, 18]⟩ (.two (.reg []) (.two (.two (.leaf) (.leaf)) (.two (.one (.two (.reg []) (.two (.reg []) (.two (.reg [(8, 4), (11, 4)]) (.two (.reg []) (.leaf)))))) (.reg []))))))) (.two (.reg []) (.two (.two (.reg []) (.one (.loop ⟨[(23, .st (.at (.rf 23 []))), (24, .pv i), (101, .pv i)], [(23, ⟨(.own .flat), (.sl i), false, false⟩)], [13, 18, 19, 99, 100], [13, 18, 12]⟩ (.two (.reg []) (.two (.two (.leaf) (.leaf)) (.two (.one (.two (.reg []) (.two (.reg []) (.two (.one (.loop ⟨[(27, .pv i)], [], [13, 18, 19, 23, 24, 25, 26, 99, 100, 101], [13, 18, 23, 12]⟩ (.two (.two (.draw [] [0, 1, 2, 3, 4, 5, 6, 7, 8, 9, 10, 11, 12, 13, 14, 15, 16, 17, 18, 19, 20, 21, 22, 23, 24, 25, 26, 27, 28, 29, 30, 31, 32, 33, 34, 35, 36, 37, 38, 39, 40, 41, 42, 43] [18]) (.two (.leaf) (.leaf))) (.one (.reg []))))) (.reg []))))) (.reg []))))))) (.two (.draw [] [0, 1, 2, 3, 4, 5, 6] [13, 23]) (.leaf)))))))))))), (.cons (.pv (.sl (.pair .str (.pair i (.pair i (.pair i .unit)))))) (.cons (.pv (.sl (.pair .str (.pair .str .unit)))) (.cons (.pv i) (.cons (.pv i) .nil)))), (.cons (.own .flat) (.sl i) (.cons .flat i (.cons .flat i .nil)))⟩
theorem it_stack_Nearest : InTab Try.prog I_stack_Nearest := ⟨Try.func27, by kernel_rfl, rfl⟩
noncomputable def T_stack_Nearest : Nat → Entry Try.prog := nth (Entry.no Try.f0) [E_stack_CheckStack, E_stack_within, E_stack_materialOf, E_stack_fewest, E_stack_Nearest_1_io_io]
noncomputable def B_stack_Nearest (n : Nat) (x0 : List (ByteArray × (Int × (Int × (Int × Unit))))) (x1 : List (ByteArray × (ByteArray × Unit))) (x2 : Int) (x3 : Int) : Option (((List Int × (Int × (Int × Unit))) × (Unit × (Unit × (Unit × (Unit × Unit)))))) :=
  (bif (!(decide ((S_chkS x0 x1 = 0)))) then
    some (([], (0, (S_chkS x0 x1, ()))), ((), ((), ((), ((), ())))))
  else
    (bif (!(S_within x2 1 8)) then
      some (([], (0, (1, ()))), ((), ((), ((), ((), ())))))
    else
      (bif (!(S_within x3 0 1000000)) then
        some (([], (0, (1, ()))), ((), ((), ((), ((), ())))))
      else
        loopN (fun rec1 => fun
        | ((v1aa, ()), (v1ba, (v1bba, ()))) =>
          (bif decide ((v1aa < ((x1.length : Nat) : Int))) then
            (bif inB v1aa x1.length then
              (bif decide ((((S_matP x0 (((x1.getD v1aa.toNat ((strOf []), ((strOf []), ()))).2).1)).2).1 = 3)) then
                (bif decide (((v1ba.length + 1) ≤ 4294967296)) then
                  rec1 ((wrapI .i64 (v1aa + 1), ()), ((v1ba ++ [(((S_matP x0 (((x1.getD v1aa.toNat ((strOf []), ((strOf []), ()))).2).1)).2).2).1]), (v1bba, ())))
                else
                  none)
              else
                rec1 ((wrapI .i64 (v1aa + 1), ()), (v1ba, (wrapI .i64 (v1bba + (((S_matP x0 (((x1.getD v1aa.toNat ((strOf []), ((strOf []), ()))).2).1)).2).2).1), ()))))
            else
              none)
          else
            ((S_fewO v1ba x2).bind fun ((r2aa, ()), ((), ((), ()))) =>
            (bif inB 0 r2aa.length then
              loopN (fun rec3 => fun
              | ((v3aa, (v3aba, ())), (v3ba, (v3bba, ()))) =>
                (bif decide ((v3aba < (((r2aa.getD 0 []).length : Nat) : Int))) then
                  (bif inB v3aba ((r2aa.getD 0 []).length) then
                    (bif decide ((0 ≤ (r2aa.getD 0 []).getD v3aba.toNat (0 : Int))) then
                      (bif decide ((v3aa < 0)) then
                        rec3 ((v3aba, (wrapI .i64 (v3aba + 1), ())), (v3ba, (v3bba, ())))
                      else
                        ((B_stack_Nearest_1_io_io v3aba v3bba v3ba).bind fun ((r4aa, ()), ((), (r4bba, (r4bbba, ())))) =>
                        ((B_stack_Nearest_1_io_io v3aa r4bba r4bbba).bind fun ((r5aa, ()), ((), (r5bba, (r5bbba, ())))) =>
                        (bif decide ((r4aa < r5aa)) then
                          rec3 ((v3aba, (wrapI .i64 (v3aba + 1), ())), (r5bbba, (r5bba, ())))
                        else
                          rec3 ((v3aa, (wrapI .i64 (v3aba + 1), ())), (r5bbba, (r5bba, ())))))))
                    else
                      rec3 ((v3aa, (wrapI .i64 (v3aba + 1), ())), (v3ba, (v3bba, ()))))
                  else
                    none)
                else
                  loopN (fun rec6 => fun
                  | ((v6aa, (v6aba, ())), (v6ba, ())) =>
                    (bif decide ((v6aba < ((v1ba.length : Nat) : Int))) then
                      (bif inB v6aba v1ba.length then
                        loopN (fun rec7 => fun
                        | ((v7aa, ()), ()) =>
                          (bif decide ((v6aa < wrapI .i64 (v7aa * v1ba.getD v6aba.toNat (0 : Int)))) then
                            rec7 ((wrapI .i64 (v7aa + 1), ()), ())
                          else
                            (bif inB (wrapI .i64 (v6aba + 1)) r2aa.length then
                              (bif decide (((((r2aa.getD ((wrapI .i64 (v6aba + 1)).toNat) []).length : Nat) : Int) ≤ wrapI .i64 (v6aa - wrapI .i64 (v7aa * v1ba.getD v6aba.toNat (0 : Int))))) then
                                rec7 ((wrapI .i64 (v7aa + 1), ()), ())
                              else
                                (bif inB (wrapI .i64 (v6aba + 1)) r2aa.length then
                                  (bif inB (wrapI .i64 (v6aa - wrapI .i64 (v7aa * v1ba.getD v6aba.toNat (0 : Int)))) ((r2aa.getD ((wrapI .i64 (v6aba + 1)).toNat) []).length) then
                                    (bif inB v6aba r2aa.length then
                                      (bif inB v6aa ((r2aa.getD v6aba.toNat []).length) then
                                        (bif (!(decide (((r2aa.getD ((wrapI .i64 (v6aba + 1)).toNat) []).getD ((wrapI .i64 (v6aa - wrapI .i64 (v7aa * v1ba.getD v6aba.toNat (0 : Int)))).toNat) (0 : Int) = wrapI .i16 ((r2aa.getD v6aba.toNat []).getD v6aa.toNat (0 : Int) - wrapI .i16 v7aa))))) then
                                          rec7 ((wrapI .i64 (v7aa + 1), ()), ())
                                        else
                                          (bif decide (((v6ba.length + 1) ≤ 4294967296)) then
                                            rec6 ((wrapI .i64 (v6aa - wrapI .i64 (v7aa * v1ba.getD v6aba.toNat (0 : Int))), (wrapI .i64 (v6aba + 1), ())), ((v6ba ++ [v7aa]), ()))
                                          else
                                            none))
                                      else
                                        none)
                                    else
                                      none)
                                  else
                                    none)
                                else
                                  none))
                            else
                              none)))
                        n ((1, ()), ())
                      else
                        none)
                    else
                      some ((v6ba, (wrapI .i64 (v3bba + v3aa), (0, ()))), ((), ((), ((), ((), ())))))))
                  n ((v3aa, (0, ())), ([], ()))))
              n (((-1), (0, ())), (x3, (v1bba, ())))
            else
              none))))
        n ((0, ()), ([], (0, ()))))))
theorem B_stack_Nearest_eq (n : Nat) (x0 : List (ByteArray × (Int × (Int × (Int × Unit))))) (x1 : List (ByteArray × (ByteArray × Unit))) (x2 : Int) (x3 : Int) : bodyE ty T_stack_Nearest n I_stack_Nearest (x0, (x1, (x2, (x3, ())))) = B_stack_Nearest n x0 x1 x2 x3 := by kernel_rfl

end Go.Proofs.Ytimaiganehbglaa
namespace Go.Proofs.Ytimaiganehbglaa
open Go Go.VM
theorem off_is {t base target : Int} (ht : -1 ≤ t ∧ t ≤ 960001) (hb : 0 ≤ base ∧ base ≤ 120000) (hg : 0 ≤ target ∧ target ≤ 1000000) : B_stack_Nearest_1_io_io t base target = some ((offE base target t, ()), ((), (base, (target, ())))) := by
  unfold B_stack_Nearest_1_io_io offE
  rw [wrap64 (n := base + t) (by omega) (by omega), wrap64 (n := base + t - target) (by omega) (by omega), wrap64 (n := target - base) (by omega) (by omega), wrap64 (n := target - base - t) (by omega) (by omega)]
theorem nearB_bad {m : List Mat} {s : List Lay} {a b : Int} (h : S_nearOk m s a b = false) : S_nearL m s a b = [] ∧ S_nearN m s a b = 0 := by
  unfold S_nearL S_nearN; rw [h]; exact ⟨rfl, rfl⟩
theorem ok_stack_Nearest (x0 : List Mat) (x1 : List Lay) (x2 x3 : Int) (hok : OkA I_stack_Nearest.args (x0, x1, x2, x3, ())) : ∃ n, bodyE ty T_stack_Nearest n I_stack_Nearest (x0, x1, x2, x3, ()) = some ((S_nearL x0 x1 x2 x3, S_nearN x0 x1 x2 x3, S_nearF x0 x1 x2 x3, ()), ((), (), (), (), ())) := by
  obtain ⟨N, hN⟩ : ∃ N, N = 1000000 + x1.length := ⟨_, rfl⟩
  refine ⟨N, ?_⟩
  have hl : x1.length ≤ maxLen := hok.2.1.1
  rw [B_stack_Nearest_eq]
  unfold B_stack_Nearest
  cases hC : decide (S_chkS x0 x1 = 0) with
  | false =>
    obtain ⟨e1, e2⟩ := nearB_bad (m := x0) (s := x1) (a := x2) (b := x3) (by unfold S_nearOk; rw [hC]; rfl)
    have e3 : S_nearF x0 x1 x2 x3 = S_chkS x0 x1 := by unfold S_nearF; rw [hC]; rfl
    rw [e1, e2, e3]; rfl
  | true =>
  cases hW : S_within x2 1 8 with
  | false =>
    obtain ⟨e1, e2⟩ := nearB_bad (m := x0) (s := x1) (a := x2) (b := x3) (by unfold S_nearOk; rw [hC, hW]; rfl)
    have e3 : S_nearF x0 x1 x2 x3 = 1 := by unfold S_nearF; rw [hC, hW]; rfl
    rw [e1, e2, e3]; rfl
  | true =>
  cases hV : S_within x3 0 1000000 with
  | false =>
    obtain ⟨e1, e2⟩ := nearB_bad (m := x0) (s := x1) (a := x2) (b := x3) (by unfold S_nearOk; rw [hC, hW, hV]; rfl)
    have e3 : S_nearF x0 x1 x2 x3 = 1 := by unfold S_nearF; rw [hC, hW, hV]; rfl
    rw [e1, e2, e3]; rfl
  | true =>
  have hok3 : S_nearOk x0 x1 x2 x3 = true := by unfold S_nearOk; rw [hC, hW, hV]; rfl
  have e3 : S_nearF x0 x1 x2 x3 = 0 := by unfold S_nearF; rw [hC, hW, hV]; rfl
  have hC := of_decide_eq_true hC
  have hM := chkS_M hC
  have h60 := chkS_max hC
  simp only [S_within, Bool.and_eq_true, decide_eq_true_eq] at hW hV
  obtain ⟨m, rfl⟩ : ∃ m : Nat, x2 = (m : Int) := ⟨x2.toNat, by omega⟩
  obtain ⟨g1, g2, g3, g4⟩ := glu_facts hC
  obtain ⟨b, hb1, hb2, _⟩ := near_best (most := m) hC (by omega) (S_gluN x0 x1) x3
  have eL : S_nearL x0 x1 (m : Int) x3 = recF m (S_gluL x0 x1) b := by
    unfold S_nearL S_nearB; rw [hok3, cond_true, Int.toNat_natCast, hb1, Int.toNat_natCast]
  have eN : S_nearN x0 x1 (m : Int) x3 = S_gluN x0 x1 + b := by
    unfold S_nearN S_nearB; rw [hok3, cond_true, Int.toNat_natCast, hb1]
  rw [eL, eN, e3]
  obtain ⟨L, hL⟩ : ∃ L, L = S_gluL x0 x1 := ⟨_, rfl⟩
  obtain ⟨base, hbase⟩ : ∃ z, z = S_gluN x0 x1 := ⟨_, rfl⟩
  rw [← hL] at g1 g4 hb1 hb2
  rw [← hbase] at g2 g3 hb1
  rw [← hL, ← hbase]
  have hrow : (fewF m L).length ≤ 960001 := by
    obtain ⟨c, hc⟩ : ∃ c : Nat, c = 2000 := ⟨_, rfl⟩
    have hsum : sumF L ≤ L.length * c := sumF_le (b := c) _ fun x hx => by have := (g1 x hx).2; omega
    have h59 : L.length * c ≤ 60 * c := Nat.mul_le_mul_right c g4
    rw [fewF_len]
    have : m * sumF L ≤ 8 * (60 * c) := Nat.mul_le_mul (by omega) (by omega)
    omega
  simp only [Bool.not_true, cond_false]
  apply Eq.trans
  · apply loop_fold (l := x1) (fun i (t : Int × List Int) => ((i, ()), (t.2, (t.1, ())))) (fun i t => t.2.length ≤ i) (gluF x0) _ (s := (0, []))
    case hs =>
      intro i h t hI
      refine ⟨glu_len x0 _ i t hI, fun rec => ?_⟩
      have c3 : decide (t.2.length + 1 ≤ 4294967296) = true := decide_eq_true (by omega)
      simp only [lt_nat h, inB_nat h, getD_at h, succ64 h hl, cond_true, Int.toNat_natCast, c3, (matP_eq hM _).1]
      unfold gluF
      cases decide ((S_matR x0 x1[i].2.1).2.1 = 3) <;> rfl
    case he =>
      intro t _ rec
      simp only [lt_self, cond_false]
      rfl
    case hn => omega
    case h0 => exact Nat.le_refl _
  · have e1 : (foldI (gluF x0) x1 0 (0, [])).2 = L := hL.symm
    have e2 : (foldI (gluF x0) x1 0 (0, [])).1 = base := hbase.symm
    have hfo : S_fewOk L (m : Int) = true := by
      simp only [S_fewOk, Bool.and_eq_true, decide_eq_true_eq, List.all_eq_true]
      exact ⟨⟨g4, fun x hx => g1 x hx⟩, by omega, by omega⟩
    have hfe : S_fewO L (m : Int) = some ((tabF m L, ()), ((), ((), ()))) := by unfold S_fewO; rw [hfo, cond_true, Int.toNat_natCast]
    have t0 : (tabF m L).getD 0 [] = fewF m L := by rw [tabF_at (Nat.zero_le _), List.drop_zero]
    have i0 : inB 0 (tabF m L).length = true := inB_nat (i := 0) (by rw [tabF_length]; omega)
    rw [e1, e2, hfe]
    simp only [Option.bind_some, i0, t0, cond_true]
    apply Eq.trans
    · apply loop_fold (l := fewF m L) (fun i (t : Int) => ((t, (i, ())), (x3, (base, ())))) (fun i t => -1 ≤ t ∧ t < (i : Int)) (bestS base x3) _ (s := -1)
      case hs =>
        intro i h t hI
        refine ⟨?_, fun rec => ?_⟩
        · unfold bestS
          cases (decide (0 ≤ (fewF m L)[i]) && (decide (t < 0) || decide (offE base x3 i < offE base x3 t))) with
          | true => rw [cond_true]; omega
          | false => rw [cond_false]; omega
        · have j3 : wrapI .i64 (((i : Nat) : Int) + 1) = ((i + 1 : Nat) : Int) := (wrap64 (by omega) (by omega)).trans (by omega)
          simp only [lt_nat h, inB_nat h, getD_at h, j3, cond_true, Int.toNat_natCast, off_is (t := (i : Int)) (by omega) ⟨g2, g3⟩ hV, off_is (t := t) (by omega) ⟨g2, g3⟩ hV, Option.bind_some]
          unfold bestS
          cases decide (0 ≤ (fewF m L)[i]) <;> cases decide (t < 0) <;> cases decide (offE base x3 i < offE base x3 t) <;> rfl
      case he =>
        intro t _ rec
        simp only [lt_self, cond_false]
        rfl
      case hn => omega
      case h0 => omega
    · have hb1' : foldI (bestS base x3) (fewF m L) 0 (-1) = (b : Int) := hb1
      rw [hb1']
      show loopN _ N (((b : Int), (0, ())), ([], ())) = _
      refine loop_meas (fun x => ∃ (i left : Nat) (out : List Int), i ≤ L.length ∧ okF m (L.drop i) left ∧ left ≤ 960001 ∧ out.length = i ∧ out ++ recF m (L.drop i) left = recF m L b ∧ x = (((left : Int), ((i : Int), ())), (out, ()))) (fun x => L.length - x.1.2.1.toNat) _ ?_ N _ ⟨0, b, [], Nat.zero_le _, hb2, by have := hb2.1; omega, rfl, rfl, rfl⟩ ?_
      · rintro _ ⟨i, left, out, h1, h2, h3, h4, h5, rfl⟩
        by_cases hi : i < L.length
        · right
          have hdr : L.drop i = L[i] :: L.drop (i + 1) := List.drop_eq_getElem_cons hi
          obtain ⟨a1, a2⟩ := g1 _ (List.getElem_mem hi)
          obtain ⟨g, hg⟩ : ∃ g : Nat, L[i] = (g : Int) := ⟨L[i].toNat, by omega⟩
          rw [hdr] at h2 h5
          obtain ⟨s1, s2, s3, s4, s5, s6⟩ := step_ok h2
          obtain ⟨now, hnow⟩ : ∃ z, z = fewF m (L[i] :: L.drop (i + 1)) := ⟨_, rfl⟩
          obtain ⟨aft, haft⟩ : ∃ z, z = fewF m (L.drop (i + 1)) := ⟨_, rfl⟩
          obtain ⟨k, hk⟩ : ∃ k, k = stepF m L[i] (L.drop (i + 1)) left := ⟨_, rfl⟩
          have hval := fewF_val m (L[i] :: L.drop (i + 1)) left h2.1
          rw [← hnow, ← haft, ← hk] at s1
          rw [← hk] at s2 s3 s5 s6
          rw [← hnow, ← haft, ← hk] at s4
          have h20 := h2.1
          rw [← hnow] at hval h20
          have hv480 : now.getD left 0 ≤ 480 := by
            have : m * (L[i] :: L.drop (i + 1)).length ≤ 8 * 60 := Nat.mul_le_mul (by omega) (by rw [List.length_cons, List.length_drop]; omega)
            omega
          rw [hg, Int.toNat_natCast] at s1 s4 s5 s6
          have ti : (tabF m L).getD i [] = now := by rw [tabF_at (Nat.le_of_lt hi), hnow, ← hdr]
          have ti1 : (tabF m L).getD (i + 1) [] = aft := by rw [tabF_at hi, haft]
          have haft' : aft.length ≤ 960001 := by
            have : now.length = aft.length + m * g := by rw [hnow, haft, fewF, (rowF_is ..).len, hg, Int.toNat_natCast]
            have hnl : now.length ≤ 960001 := by
              obtain ⟨c, hc⟩ : ∃ c : Nat, c = 2000 := ⟨_, rfl⟩
              have hsum : sumF (L.drop i) ≤ (L.drop i).length * c := sumF_le (b := c) _ fun x hx => by have := (g1 x (List.mem_of_mem_drop hx)).2; omega
              have h59 : (L.drop i).length * c ≤ 60 * c := Nat.mul_le_mul_right c (by rw [List.length_drop]; omega)
              rw [hnow, ← hdr, fewF_len]
              have : m * sumF (L.drop i) ≤ 8 * (60 * c) := Nat.mul_le_mul (by omega) (by omega)
              omega
            omega
          refine ⟨((((left - k * g : Nat) : Int), (((i + 1 : Nat) : Int), ())), (out ++ [(k : Int)], ())), ⟨i + 1, left - k * g, _, hi, s5, by omega, by rw [List.length_append, h4]; rfl, ?_, rfl⟩, ?_, fun rec6 => ?_⟩
          · rw [← h5, List.append_assoc, recF, ← hk, hg, Int.toNat_natCast]; rfl
          · show L.length - (((i + 1 : Nat) : Int)).toNat < L.length - ((i : Int)).toNat
            rw [Int.toNat_natCast, Int.toNat_natCast]; omega
          · have j1 : decide ((i : Int) < ((L.length : Nat) : Int)) = true := decide_eq_true (by omega)
            have j2 : inB (i : Int) L.length = true := inB_nat hi
            have j3 : wrapI .i64 (((i : Nat) : Int) + 1) = ((i + 1 : Nat) : Int) := (wrap64 (by omega) (by omega)).trans (by omega)
            have j4 : inB ((i + 1 : Nat) : Int) (tabF m L).length = true := inB_nat (by rw [tabF_length]; omega)
            have j5 : inB (i : Int) (tabF m L).length = true := inB_nat (by rw [tabF_length]; omega)
            have j6 : L.getD i 0 = (g : Int) := by rw [getD_at hi, hg]
            have j7 : inB (left : Int) now.length = true := inB_nat h20
            have j8 : decide (out.length + 1 ≤ 4294967296) = true := decide_eq_true (by omega)
            simp only [j1, j2, j3, j4, j5, j6, j7, j8, ti, ti1, cond_true, Int.toNat_natCast]
            refine loop_meas (fun x => ∃ j : Nat, 1 ≤ j ∧ j ≤ k ∧ x = (((j : Int), ()), ())) (fun x => k - x.1.1.toNat) _ ?_ N _ ⟨1, Nat.le_refl _, s2, rfl⟩ (by show k - _ < N; omega)
            rintro _ ⟨j, q1, q2, rfl⟩
            have hjg : j * g ≤ 8 * 2000 := Nat.mul_le_mul (by omega) (by omega)
            have w1 : wrapI .i64 ((j : Int) * (g : Int)) = ((j * g : Nat) : Int) := by rw [← Int.natCast_mul]; exact wrap64 (by omega) (by omega)
            have w2 : wrapI .i64 ((j : Int) + 1) = ((j + 1 : Nat) : Int) := (wrap64 (by omega) (by omega)).trans (by omega)
            have w3 : wrapI .i64 ((left : Int) - ((j * g : Nat) : Int)) = (left : Int) - ((j * g : Nat) : Int) := wrap64 (by omega) (by omega)
            have w4 : wrapI .i16 (now.getD left 0 - wrapI .i16 (j : Int)) = now.getD left 0 - (j : Int) := by
              rw [wrap16 (n := (j : Int)) (by omega) (by omega), wrap16 (by omega) (by omega)]
            have w5 : wrapI .i64 ((left - j * g : Nat) : Int) = ((left - j * g : Nat) : Int) := wrap64 (by omega) (by omega)
            by_cases hjk : j = k
            · left
              intro rec7
              subst hjk
              unfold stopF at s1
              simp only [Bool.and_eq_true, decide_eq_true_eq] at s1
              obtain ⟨⟨p1, p2⟩, p3⟩ := s1
              have d1 : decide ((left : Int) < ((j * g : Nat) : Int)) = false := decide_eq_false (by omega)
              have d0 : (left : Int) - ((j * g : Nat) : Int) = ((left - j * g : Nat) : Int) := by omega
              have d2 : decide (((aft.length : Nat) : Int) ≤ ((left - j * g : Nat) : Int)) = false := decide_eq_false (by omega)
              have d3 : inB ((left - j * g : Nat) : Int) aft.length = true := inB_nat p2
              simp only [w1, w2, w3, w4, w5, d0, d1, d2, d3, p3, decide_true, cond_true, cond_false, Bool.not_true, Int.toNat_natCast]
            · right
              refine ⟨((((j + 1 : Nat) : Int), ()), ()), ⟨j + 1, by omega, by omega, rfl⟩, ?_, fun rec7 => ?_⟩
              · show k - (((j + 1 : Nat) : Int)).toNat < k - ((j : Int)).toNat
                rw [Int.toNat_natCast, Int.toNat_natCast]; omega
              · have hs := s4 j q1 (by omega)
                by_cases p1 : j * g ≤ left
                · have d1 : decide ((left : Int) < ((j * g : Nat) : Int)) = false := decide_eq_false (by omega)
                  have d0 : (left : Int) - ((j * g : Nat) : Int) = ((left - j * g : Nat) : Int) := by omega
                  by_cases p2 : left - j * g < aft.length
                  · have d2 : decide (((aft.length : Nat) : Int) ≤ ((left - j * g : Nat) : Int)) = false := decide_eq_false (by omega)
                    have d3 : inB ((left - j * g : Nat) : Int) aft.length = true := inB_nat p2
                    have d4 : decide (aft.getD (left - j * g) 0 = now.getD left 0 - (j : Int)) = false := by
                      unfold stopF at hs
                      rw [decide_eq_true p1, decide_eq_true p2] at hs
                      exact hs
                    simp only [w1, w2, w3, w4, w5, d0, d1, d2, d3, d4, cond_true, cond_false, Bool.not_false, Int.toNat_natCast]
                  · have d2 : decide (((aft.length : Nat) : Int) ≤ ((left - j * g : Nat) : Int)) = true := decide_eq_true (by omega)
                    simp only [w1, w2, w3, w5, d0, d1, d2, cond_true, cond_false]
                · have d1 : decide ((left : Int) < ((j * g : Nat) : Int)) = true := decide_eq_true (by omega)
                  simp only [w1, w2, d1, cond_true]
        · left
          intro rec6
          obtain rfl : i = L.length := by omega
          simp only [lt_self, cond_false]
          have hd : L.drop L.length = [] := List.drop_length
          rw [hd] at h5 h2
          have h5 : out ++ [] = recF m L b := h5
          rw [List.append_nil] at h5
          rw [h5, wrap64 (n := base + (b : Int)) (by omega) (by have := hb2.1; omega)]
      · show L.length - (0 : Int).toNat < N
        omega
noncomputable def E_stack_Nearest : Entry Try.prog := Entry.of tok T_stack_Nearest I_stack_Nearest it_stack_Nearest (fun (x0, x1, x2, x3, ()) => some ((S_nearL x0 x1 x2 x3, S_nearN x0 x1 x2 x3, S_nearF x0 x1 x2 x3, ()), ((), (), (), (), ()))) (fun (x0, x1, x2, x3, ()) r hok h => by cases h; exact ok_stack_Nearest x0 x1 x2 x3 hok)

end Go.Proofs.Ytimaiganehbglaa
namespace Go.Proofs.Ytimaiganehbglaa
open Go Go.VM
/-! ### etchhouse.stack.thick -/
noncomputable def I_stack_thick : Inst := ⟨33, Try.f33, .two (.reg []) (.two (.reg []) (.two (.two (.reg []) (.one (.loop ⟨[(5, .pv i), (12, .pv i)], [], [0, 10, 11], []⟩ (.two (.reg []) (.two (.two (.leaf) (.leaf)) (.two (.one (.two (.reg []) (.two (.reg [(3, 0)]) (.reg [])))) (.reg []))))))) (.two (.reg []) (.leaf)))), (.cons (.pv (.sl (.pair .str (.pair i (.pair i (.pair i .unit)))))) (.cons (.pv (.sl (.pair .str (.pair .str .unit)))) .nil)), (.cons .flat i .nil)⟩
theorem it_stack_thick : InTab Try.prog I_stack_thick := ⟨Try.func33, by kernel_rfl, rfl⟩
noncomputable def T_stack_thick : Nat → Entry Try.prog := nth (Entry.no Try.f0) [E_stack_materialOf]
noncomputable def B_stack_thick (n : Nat) (x0 : List (ByteArray × (Int × (Int × (Int × Unit))))) (x1 : List (ByteArray × (ByteArray × Unit))) : Option (((Int × Unit) × (Unit × (Unit × Unit)))) :=
  loopN (fun rec1 => fun
  | ((v1aa, (v1aba, ())), ()) =>
    (bif decide ((v1aba < ((x1.length : Nat) : Int))) then
      (bif inB v1aba x1.length then
        rec1 ((wrapI .i64 (v1aa + (((S_matP x0 (((x1.getD v1aba.toNat ((strOf []), ((strOf []), ()))).2).1)).2).2).1), (wrapI .i64 (v1aba + 1), ())), ())
      else
        none)
    else
      some ((v1aa, ()), ((), ((), ())))))
  n ((0, (0, ())), ())
theorem B_stack_thick_eq (n : Nat) (x0 : List (ByteArray × (Int × (Int × (Int × Unit))))) (x1 : List (ByteArray × (ByteArray × Unit))) : bodyE ty T_stack_thick n I_stack_thick (x0, (x1, ())) = B_stack_thick n x0 x1 := by kernel_rfl

end Go.Proofs.Ytimaiganehbglaa
namespace Go.Proofs.Ytimaiganehbglaa
open Go Go.VM
theorem ok_stack_thick (x0 : List Mat) (x1 : List Lay) (hok : OkA I_stack_thick.args (x0, x1, ())) : ∃ n, bodyE ty T_stack_thick n I_stack_thick (x0, x1, ()) = some ((S_thkP x0 x1, ()), ((), (), ())) := ⟨x1.length + 1, by
  have hl : x1.length ≤ maxLen := hok.2.1.1
  rw [B_stack_thick_eq]
  unfold B_stack_thick S_thkP
  exact loop_fold (l := x1) (fun i (s : Int) => ((s, (i, ())), ())) (fun _ _ => True) (fun l _ n => wrapI .i64 (n + (S_matP x0 l.2.1).2.2.1)) (fun s => some ((s, ()), ((), (), ()))) (fun i h s _ => ⟨trivial, fun rec => by
    simp only [lt_nat h, inB_nat h, getD_lt h, succ64 h hl, cond_true]⟩) (fun s _ rec => by simp only [lt_self, cond_false]) (Nat.lt_succ_self _) (s := 0) trivial⟩
noncomputable def E_stack_thick : Entry Try.prog := Entry.of tok T_stack_thick I_stack_thick it_stack_thick (fun (x0, x1, ()) => some ((S_thkP x0 x1, ()), ((), (), ()))) (fun (x0, x1, ()) r hok h => by cases h; exact ok_stack_thick x0 x1 hok)

end Go.Proofs.Ytimaiganehbglaa
namespace Go.Proofs.Ytimaiganehbglaa
open Go Go.VM
/-! ### etchhouse.stack.Thickness -/
noncomputable def I_stack_Thickness : Inst := ⟨9, Try.f9, .two (.reg []) (.two (.two (.reg [(2, 0)]) (.two (.reg []) (.two (.two (.reg []) (.leaf)) (.leaf)))) (.two (.reg [(2, 1)]) (.leaf))), (.cons (.pv (.sl (.pair .str (.pair i (.pair i (.pair i .unit)))))) (.cons (.pv (.sl (.pair .str (.pair .str .unit)))) .nil)), (.cons .flat i (.cons .flat i .nil))⟩
theorem it_stack_Thickness : InTab Try.prog I_stack_Thickness := ⟨Try.func9, by kernel_rfl, rfl⟩
noncomputable def T_stack_Thickness : Nat → Entry Try.prog := nth (Entry.no Try.f0) [E_stack_CheckStack, E_stack_thick]
noncomputable def B_stack_Thickness (x0 : List (ByteArray × (Int × (Int × (Int × Unit))))) (x1 : List (ByteArray × (ByteArray × Unit))) : Option (((Int × (Int × Unit)) × (Unit × (Unit × Unit)))) :=
  (bif (!(decide ((S_chkS x0 x1 = 0)))) then
    some ((0, (S_chkS x0 x1, ())), ((), ((), ())))
  else
    some ((S_thkP x0 x1, (0, ())), ((), ((), ()))))
theorem B_stack_Thickness_eq (n : Nat) (x0 : List (ByteArray × (Int × (Int × (Int × Unit))))) (x1 : List (ByteArray × (ByteArray × Unit))) : bodyE ty T_stack_Thickness n I_stack_Thickness (x0, (x1, ())) = B_stack_Thickness x0 x1 := by kernel_rfl

end Go.Proofs.Ytimaiganehbglaa
namespace Go.Proofs.Ytimaiganehbglaa
open Go Go.VM
theorem ok_stack_Thickness (x0 : List Mat) (x1 : List Lay) (hok : OkA I_stack_Thickness.args (x0, x1, ())) : ∃ n, bodyE ty T_stack_Thickness n I_stack_Thickness (x0, x1, ()) = some ((S_Thick x0 x1, S_chkS x0 x1, ()), ((), (), ())) := ⟨0, by
  rw [B_stack_Thickness_eq]
  unfold B_stack_Thickness S_Thick
  cases h : decide (S_chkS x0 x1 = 0) with
  | false => rfl
  | true =>
    have h := of_decide_eq_true h
    rw [h, thkP_eq (chkS_M h)]; rfl⟩
noncomputable def E_stack_Thickness : Entry Try.prog := Entry.of tok T_stack_Thickness I_stack_Thickness it_stack_Thickness (fun (x0, x1, ()) => some ((S_Thick x0 x1, S_chkS x0 x1, ()), ((), (), ()))) (fun (x0, x1, ()) r hok h => by cases h; exact ok_stack_Thickness x0 x1 hok)

end Go.Proofs.Ytimaiganehbglaa
namespace Go.Proofs.Ytimaiganehbglaa
open Go Go.VM
/-! ### etchhouse.etchhouselaw4.awake -/
noncomputable def I_etchhouselaw4_awake : Inst := ⟨15, Try.f15, .two (.reg []) (.two (.reg [(7, 0)]) (.two (.reg []) (.leaf))), .nil, (.cons .flat .bool .nil)⟩
theorem it_etchhouselaw4_awake : InTab Try.prog I_etchhouselaw4_awake := ⟨Try.func15, by kernel_rfl, rfl⟩
noncomputable def T_etchhouselaw4_awake : Nat → Entry Try.prog := nth (Entry.no Try.f0) [E_stack_Thickness]
noncomputable def B_etchhouselaw4_awake  : Option (((Bool × Unit) × Unit)) :=
  (bif decide ((S_chkS ([((strOf [99]), (1, (2, (0, ())))), ((strOf [103]), (3, (3, (0, ()))))]) ([((strOf [97]), ((strOf [99]), ())), ((strOf []), ((strOf [103]), ())), ((strOf [98]), ((strOf [99]), ()))]) = 0)) then
    some ((decide ((S_Thick ([((strOf [99]), (1, (2, (0, ())))), ((strOf [103]), (3, (3, (0, ()))))]) ([((strOf [97]), ((strOf [99]), ())), ((strOf []), ((strOf [103]), ())), ((strOf [98]), ((strOf [99]), ()))]) = 7)), ()), ())
  else
    some ((false, ()), ()))
theorem B_etchhouselaw4_awake_eq (n : Nat)  : bodyE ty T_etchhouselaw4_awake n I_etchhouselaw4_awake () = B_etchhouselaw4_awake  := by kernel_rfl

end Go.Proofs.Ytimaiganehbglaa
namespace Go.Proofs.Ytimaiganehbglaa
open Go Go.VM
theorem ok_etchhouselaw4_awake (hok : OkA I_etchhouselaw4_awake.args ()) : ∃ n, bodyE ty T_etchhouselaw4_awake n I_etchhouselaw4_awake () = some ((true, ()), ()) := ⟨0, by rw [B_etchhouselaw4_awake_eq]; unfold B_etchhouselaw4_awake; kernel_rfl⟩
noncomputable def E_etchhouselaw4_awake : Entry Try.prog := Entry.of tok T_etchhouselaw4_awake I_etchhouselaw4_awake it_etchhouselaw4_awake (fun () => some ((true, ()), ())) (fun () r hok h => by cases h; exact ok_etchhouselaw4_awake  hok)

end Go.Proofs.Ytimaiganehbglaa
namespace Go.Proofs.Ytimaiganehbglaa
open Go Go.VM
/-! ### etchhouse.etchhouseref4.materialOf -/
noncomputable def I_etchhouseref4_materialOf : Inst := ⟨49, Try.f49, .two (.reg []) (.two (.two (.reg []) (.one (.loop ⟨[(9, .pv i)], [], [1, 4, 7, 8], [4]⟩ (.two (.reg []) (.two (.two (.leaf) (.leaf)) (.two (.one (.two (.reg []) (.two (.reg []) (.two (.two (.reg []) (.leaf)) (.leaf))))) (.reg []))))))) (.two (.reg []) (.leaf))), (.cons (.pv (.sl (.pair .str (.pair i (.pair i (.pair i .unit)))))) (.cons (.pv .str) .nil)), (.cons .flat (.pair .str (.pair i (.pair i (.pair i .unit)))) .nil)⟩
theorem it_etchhouseref4_materialOf : InTab Try.prog I_etchhouseref4_materialOf := ⟨Try.func49, by kernel_rfl, rfl⟩
noncomputable def T_etchhouseref4_materialOf : Nat → Entry Try.prog := nth (Entry.no Try.f0) []
noncomputable def B_etchhouseref4_materialOf (n : Nat) (x0 : List (ByteArray × (Int × (Int × (Int × Unit))))) (x1 : ByteArray) : Option ((((ByteArray × (Int × (Int × (Int × Unit)))) × Unit) × (Unit × (Unit × Unit)))) :=
  loopN (fun rec1 => fun
  | ((v1aa, ()), ()) =>
    (bif decide ((v1aa < ((x0.length : Nat) : Int))) then
      (bif inB v1aa x0.length then
        (bif decide ((ByteArray.toList ((x0.getD v1aa.toNat ((strOf []), (0, (0, (0, ()))))).1) = ByteArray.toList x1)) then
          some ((x0.getD v1aa.toNat ((strOf []), (0, (0, (0, ())))), ()), ((), ((), ())))
        else
          rec1 ((wrapI .i64 (v1aa + 1), ()), ()))
      else
        none)
    else
      some ((((strOf []), (0, (0, (0, ())))), ()), ((), ((), ())))))
  n ((0, ()), ())
theorem B_etchhouseref4_materialOf_eq (n : Nat) (x0 : List (ByteArray × (Int × (Int × (Int × Unit))))) (x1 : ByteArray) : bodyE ty T_etchhouseref4_materialOf n I_etchhouseref4_materialOf (x0, (x1, ())) = B_etchhouseref4_materialOf n x0 x1 := by kernel_rfl

end Go.Proofs.Ytimaiganehbglaa
namespace Go.Proofs.Ytimaiganehbglaa
open Go Go.VM
theorem findD_go {α A : Type} {p : α → Bool} {R : α → Option A} {d : α} : ∀ (l : List α) (i : Nat), goL (fun a i (_ : Unit) => bif p a then .inr (R a) else .inl ()) (fun _ => R d) l i () = R ((l.find? p).getD d)
  | [], _ => rfl
  | a :: r, i => by
    simp only [goL, List.find?_cons]
    cases p a with
    | true => rfl
    | false => exact findD_go r (i + 1)
theorem ok_etchhouseref4_materialOf (x0 : List Mat) (x1 : ByteArray) (hok : OkA I_etchhouseref4_materialOf.args (x0, x1, ())) : ∃ n, bodyE ty T_etchhouseref4_materialOf n I_etchhouseref4_materialOf (x0, x1, ()) = some ((S_matR x0 x1, ()), ((), (), ())) := ⟨x0.length + 1, by
  have hl : x0.length ≤ maxLen := hok.1.1
  rw [B_etchhouseref4_materialOf_eq]
  unfold B_etchhouseref4_materialOf S_matR
  refine (loop_list (l := x0) (fun i (_ : Unit) => ((i, ()), ())) (fun a i _ => bif decide (a.1.toList = x1.toList) then .inr (some ((a, ()), ((), (), ()))) else .inl ()) (fun _ => some ((mat0, ()), ((), (), ()))) (fun i h s rec => ?_) (fun s rec => ?_) (Nat.lt_succ_self _) ()).trans ?_
  · simp only [lt_nat h, inB_nat h, getD_lt h, succ64 h hl, cond_true]
    cases decide (ByteArray.toList x0[i].1 = ByteArray.toList x1) <;> rfl
  · simp only [lt_self, cond_false]; rfl
  · exact findD_go (p := fun a : Mat => decide (a.1.toList = x1.toList)) (R := fun a => some ((a, ()), ((), (), ()))) x0 0⟩
noncomputable def E_etchhouseref4_materialOf : Entry Try.prog := Entry.of tok T_etchhouseref4_materialOf I_etchhouseref4_materialOf it_etchhouseref4_materialOf (fun (x0, x1, ()) => some ((S_matR x0 x1, ()), ((), (), ()))) (fun (x0, x1, ()) r hok h => by cases h; exact ok_etchhouseref4_materialOf x0 x1 hok)

end Go.Proofs.Ytimaiganehbglaa
namespace Go.Proofs.Ytimaiganehbglaa
open Go Go.VM
/-! ### etchhouse.etchhouseref4.glues -/
noncomputable def I_etchhouseref4_glues : Inst := ⟨52, Try.f52, .two (.reg []) (.two (.reg []) (.two (.reg []) (.two (.two (.reg []) (.one (.loop ⟨[(6, .st (.at (.rf 6 []))), (7, .pv i), (13, .pv i)], [(6, ⟨(.own .flat), (.sl i), false, false⟩)], [0, 11, 12], []⟩ (.two (.reg []) (.two (.two (.leaf) (.leaf)) (.two (.one (.two (.reg []) (.two (.reg [(3, 0)]) (.two (.reg []) (.two (.reg []) (.reg [])))))) (.reg []))))))) (.two (.reg []) (.leaf))))), (.cons (.pv (.sl (.pair .str (.pair i (.pair i (.pair i .unit)))))) (.cons (.pv (.sl (.pair .str (.pair .str .unit)))) .nil)), (.cons (.own .flat) (.sl i) (.cons .flat i .nil))⟩
theorem it_etchhouseref4_glues : InTab Try.prog I_etchhouseref4_glues := ⟨Try.func52, by kernel_rfl, rfl⟩
noncomputable def T_etchhouseref4_glues : Nat → Entry Try.prog := nth (Entry.no Try.f0) [E_etchhouseref4_materialOf]
noncomputable def B_etchhouseref4_glues (n : Nat) (x0 : List (ByteArray × (Int × (Int × (Int × Unit))))) (x1 : List (ByteArray × (ByteArray × Unit))) : Option (((List Int × (Int × Unit)) × (Unit × (Unit × Unit)))) :=
  loopN (fun rec1 => fun
  | ((v1aa, (v1aba, ())), (v1ba, ())) =>
    (bif decide ((v1aba < ((x1.length : Nat) : Int))) then
      (bif inB v1aba x1.length then
        (bif decide ((((S_matR x0 (((x1.getD v1aba.toNat ((strOf []), ((strOf []), ()))).2).1)).2).1 = 3)) then
          (bif decide (((v1ba.length + 1) ≤ 4294967296)) then
            rec1 ((v1aa, (wrapI .i64 (v1aba + 1), ())), ((v1ba ++ [(((S_matR x0 (((x1.getD v1aba.toNat ((strOf []), ((strOf []), ()))).2).1)).2).2).1]), ()))
          else
            none)
        else
          rec1 ((wrapI .i64 (v1aa + (((S_matR x0 (((x1.getD v1aba.toNat ((strOf []), ((strOf []), ()))).2).1)).2).2).1), (wrapI .i64 (v1aba + 1), ())), (v1ba, ())))
      else
        none)
    else
      some ((v1ba, (v1aa, ())), ((), ((), ())))))
  n ((0, (0, ())), ([], ()))
theorem B_etchhouseref4_glues_eq (n : Nat) (x0 : List (ByteArray × (Int × (Int × (Int × Unit))))) (x1 : List (ByteArray × (ByteArray × Unit))) : bodyE ty T_etchhouseref4_glues n I_etchhouseref4_glues (x0, (x1, ())) = B_etchhouseref4_glues n x0 x1 := by kernel_rfl

end Go.Proofs.Ytimaiganehbglaa
namespace Go.Proofs.Ytimaiganehbglaa
open Go Go.VM
def S_gluO (x0 : List Mat) (x1 : List Lay) : Option ((List Int × (Int × Unit)) × Unit × Unit × Unit) := bif decide (x1.length ≤ 4294967296) then some ((S_gluL x0 x1, S_gluN x0 x1, ()), ((), (), ())) else none
theorem ok_etchhouseref4_glues (x0 : List Mat) (x1 : List Lay) (hok : OkA I_etchhouseref4_glues.args (x0, x1, ())) (r) (h : S_gluO x0 x1 = some r) : ∃ n, bodyE ty T_etchhouseref4_glues n I_etchhouseref4_glues (x0, x1, ()) = some r := ⟨x1.length + 1, by
  have hl : x1.length ≤ maxLen := hok.2.1.1
  rw [B_etchhouseref4_glues_eq, ← h]
  unfold S_gluO at h ⊢
  cases hd : decide (x1.length ≤ 4294967296) with
  | false => rw [hd] at h; cases h
  | true =>
  have hd := of_decide_eq_true hd
  unfold B_etchhouseref4_glues
  refine (loop_fold (l := x1) (fun i (t : Int × List Int) => ((t.1, (i, ())), (t.2, ()))) (fun i t => t.2.length ≤ i) (gluF x0) (fun t => some ((t.2, t.1, ()), ((), (), ()))) (fun i h t hI => ⟨glu_len x0 _ i t hI, fun rec => ?_⟩) (fun t _ rec => by simp only [lt_self, cond_false]) (Nat.lt_succ_self _) (s := (0, [])) (Nat.le_refl _)).trans rfl
  have c3 : decide (t.2.length + 1 ≤ 4294967296) = true := decide_eq_true (by omega)
  simp only [lt_nat h, inB_nat h, getD_at h, succ64 h hl, cond_true, Int.toNat_natCast, c3]
  unfold gluF
  cases decide ((S_matR x0 x1[i].2.1).2.1 = 3) <;> rfl⟩
noncomputable def E_etchhouseref4_glues : Entry Try.prog := Entry.of tok T_etchhouseref4_glues I_etchhouseref4_glues it_etchhouseref4_glues (fun (x0, x1, ()) => S_gluO x0 x1) (fun (x0, x1, ()) r hok h => ok_etchhouseref4_glues x0 x1 hok r h)

end Go.Proofs.Ytimaiganehbglaa
namespace Go.Proofs.Ytimaiganehbglaa
open Go Go.VM
/-! ### etchhouse.etchhouseref4.WithSheets -/
noncomputable def I_etchhouseref4_WithSheets : Inst := ⟨28, Try.f28, .two (.reg []) (.two (.reg [(2, 0)]) (.two (.two (.reg []) (.two (.two (.reg []) (.leaf)) (.leaf))) (.two (.two (.reg []) (.one (.loop ⟨[(9, .pv i), (25, .pv i)], [], [2, 23, 24], [8]⟩ (.two (.reg []) (.two (.two (.leaf) (.leaf)) (.two (.one (.two (.reg []) (.reg []))) (.reg []))))))) (.two (.reg []) (.leaf))))), (.cons (.pv (.sl (.pair .str (.pair i (.pair i (.pair i .unit)))))) (.cons (.pv (.sl (.pair .str (.pair .str .unit)))) (.cons (.pv (.sl i)) .nil))), (.cons .flat i (.cons .flat .bool .nil))⟩
theorem it_etchhouseref4_WithSheets : InTab Try.prog I_etchhouseref4_WithSheets := ⟨Try.func28, by kernel_rfl, rfl⟩
noncomputable def T_etchhouseref4_WithSheets : Nat → Entry Try.prog := nth (Entry.no Try.f0) [E_etchhouseref4_glues]
noncomputable def B_etchhouseref4_WithSheets (n : Nat) (x0 : List (ByteArray × (Int × (Int × (Int × Unit))))) (x1 : List (ByteArray × (ByteArray × Unit))) (x2 : List Int) : Option (((Int × (Bool × Unit)) × (Unit × (Unit × (Unit × Unit))))) :=
  ((S_gluO x0 x1).bind fun ((r1aa, (r1aba, ())), ((), ((), ()))) =>
  (bif (!(decide ((((r1aa.length : Nat) : Int) = ((x2.length : Nat) : Int))))) then
    some ((0, (false, ())), ((), ((), ((), ()))))
  else
    loopN (fun rec2 => fun
    | ((v2aa, (v2aba, ())), ()) =>
      (bif decide ((v2aba < ((r1aa.length : Nat) : Int))) then
        (bif inB v2aba r1aa.length then
          (bif inB v2aba x2.length then
            rec2 ((wrapI .i64 (v2aa + wrapI .i64 (r1aa.getD v2aba.toNat (0 : Int) * x2.getD v2aba.toNat (0 : Int))), (wrapI .i64 (v2aba + 1), ())), ())
          else
            none)
        else
          none)
      else
        some ((v2aa, (true, ())), ((), ((), ((), ()))))))
    n ((r1aba, (0, ())), ())))
theorem B_etchhouseref4_WithSheets_eq (n : Nat) (x0 : List (ByteArray × (Int × (Int × (Int × Unit))))) (x1 : List (ByteArray × (ByteArray × Unit))) (x2 : List Int) : bodyE ty T_etchhouseref4_WithSheets n I_etchhouseref4_WithSheets (x0, (x1, (x2, ()))) = B_etchhouseref4_WithSheets n x0 x1 x2 := by kernel_rfl

end Go.Proofs.Ytimaiganehbglaa
namespace Go.Proofs.Ytimaiganehbglaa
open Go Go.VM
def S_withO (x0 : List Mat) (x1 : List Lay) (x2 : List Int) : Option ((Int × (Bool × Unit)) × Unit × Unit × Unit × Unit) := bif decide (x1.length ≤ 4294967296) then some ((S_withN x0 x1 x2, S_withB x0 x1 x2, ()), ((), (), (), ())) else none
theorem ok_etchhouseref4_WithSheets (x0 : List Mat) (x1 : List Lay) (x2 : List Int) (hok : OkA I_etchhouseref4_WithSheets.args (x0, x1, x2, ())) (r) (h : S_withO x0 x1 x2 = some r) : ∃ n, bodyE ty T_etchhouseref4_WithSheets n I_etchhouseref4_WithSheets (x0, x1, x2, ()) = some r := ⟨x1.length + 1, by
  have hl : x1.length ≤ maxLen := hok.2.1.1
  rw [B_etchhouseref4_WithSheets_eq, ← h]
  unfold S_withO at h ⊢
  cases hd : decide (x1.length ≤ 4294967296) with
  | false => rw [hd] at h; cases h
  | true =>
  have hgl := gluL_len x0 x1
  have hgm : (S_gluL x0 x1).length ≤ maxLen := Nat.le_trans hgl hl
  unfold B_etchhouseref4_WithSheets S_gluO S_withN
  rw [hd]
  simp only [cond_true, Option.bind_some]
  cases hb : S_withB x0 x1 x2 with
  | false =>
    have hb' : decide ((((S_gluL x0 x1).length : Nat) : Int) = ((x2.length : Nat) : Int)) = false := hb
    rw [hb']; rfl
  | true =>
    have hb' : decide ((((S_gluL x0 x1).length : Nat) : Int) = ((x2.length : Nat) : Int)) = true := hb
    have he := of_decide_eq_true hb'
    rw [hb']
    simp only [Bool.not_true, cond_false, cond_true]
    refine (loop_fold (l := S_gluL x0 x1) (fun i (t : Int) => ((t, (i, ())), ())) (fun _ _ => True) (withF x2) (fun t => some ((t, true, ()), ((), (), (), ()))) (fun i h t _ => ⟨trivial, fun rec => ?_⟩) (fun t _ rec => by simp only [lt_self, cond_false]) (show (S_gluL x0 x1).length < x1.length + 1 by omega) (s := S_gluN x0 x1) trivial).trans rfl
    simp only [lt_nat h, inB_nat h, inB_nat (show i < x2.length by omega), getD_at h, succ64 h hgm, cond_true, Int.toNat_natCast, withF]⟩
noncomputable def E_etchhouseref4_WithSheets : Entry Try.prog := Entry.of tok T_etchhouseref4_WithSheets I_etchhouseref4_WithSheets it_etchhouseref4_WithSheets (fun (x0, x1, x2, ()) => S_withO x0 x1 x2) (fun (x0, x1, x2, ()) r hok h => ok_etchhouseref4_WithSheets x0 x1 x2 hok r h)

end Go.Proofs.Ytimaiganehbglaa
namespace Go.Proofs.Ytimaiganehbglaa
open Go Go.VM
/-! ### etchhouse.etchhouseref4.Below -/
noncomputable def I_etchhouseref4_Below : Inst := ⟨29, Try.f29, .two (.reg []) (.two (.reg []) (.two (.two (.reg []) (.two (.reg []) (.leaf))) (.two (.reg []) (.leaf)))), (.cons (.pv i) (.cons (.pv i) .nil)), (.cons .flat i .nil)⟩
theorem it_etchhouseref4_Below : InTab Try.prog I_etchhouseref4_Below := ⟨Try.func29, by kernel_rfl, rfl⟩
noncomputable def T_etchhouseref4_Below : Nat → Entry Try.prog := nth (Entry.no Try.f0) []
noncomputable def B_etchhouseref4_Below (x0 : Int) (x1 : Int) : Option (((Int × Unit) × (Unit × (Unit × Unit)))) :=
  (bif (!(decide ((x1 = 0)))) then
    (bif decide ((Int.tmod x0 x1 < 0)) then
      some ((wrapI .i64 (Int.tmod x0 x1 + x1), ()), ((), ((), ())))
    else
      some ((Int.tmod x0 x1, ()), ((), ((), ()))))
  else
    none)
theorem B_etchhouseref4_Below_eq (n : Nat) (x0 : Int) (x1 : Int) : bodyE ty T_etchhouseref4_Below n I_etchhouseref4_Below (x0, (x1, ())) = B_etchhouseref4_Below x0 x1 := by kernel_rfl

end Go.Proofs.Ytimaiganehbglaa
namespace Go.Proofs.Ytimaiganehbglaa
open Go Go.VM
noncomputable def E_etchhouseref4_Below : Entry Try.prog := Entry.of tok T_etchhouseref4_Below I_etchhouseref4_Below it_etchhouseref4_Below (fun x => B_etchhouseref4_Below x.1 x.2.1) (fun (a0, a1, ()) r _ h => ⟨0, (B_etchhouseref4_Below_eq 0 a0 a1).trans h⟩)

end Go.Proofs.Ytimaiganehbglaa
namespace Go.Proofs.Ytimaiganehbglaa
open Go Go.VM
/-! ### etchhouse.etchhouseref4.apart -/
noncomputable def I_etchhouseref4_apart : Inst := ⟨53, Try.f53, .two (.reg []) (.two (.reg []) (.leaf)), (.cons (.pv i) (.cons (.pv i) .nil)), (.cons .flat i .nil)⟩
theorem it_etchhouseref4_apart : InTab Try.prog I_etchhouseref4_apart := ⟨Try.func53, by kernel_rfl, rfl⟩
noncomputable def T_etchhouseref4_apart : Nat → Entry Try.prog := nth (Entry.no Try.f0) []
noncomputable def B_etchhouseref4_apart (x0 : Int) (x1 : Int) : Option (((Int × Unit) × (Unit × (Unit × Unit)))) :=
  some ((wrapI .i64 ((bif decide ((x0 < x1)) then x1 else x0) - (bif decide ((x1 < x0)) then x1 else x0)), ()), ((), ((), ())))
theorem B_etchhouseref4_apart_eq (n : Nat) (x0 : Int) (x1 : Int) : bodyE ty T_etchhouseref4_apart n I_etchhouseref4_apart (x0, (x1, ())) = B_etchhouseref4_apart x0 x1 := by kernel_rfl

end Go.Proofs.Ytimaiganehbglaa
namespace Go.Proofs.Ytimaiganehbglaa
open Go Go.VM
def S_etchhouseref4_apart (x0 : Int) (x1 : Int) : Int := wrapI .i64 ((bif decide ((x0 < x1)) then x1 else x0) - (bif decide ((x1 < x0)) then x1 else x0))
theorem ok_etchhouseref4_apart (x0 : Int) (x1 : Int) (hok : OkA I_etchhouseref4_apart.args (x0, x1, ())) : ∃ n, bodyE ty T_etchhouseref4_apart n I_etchhouseref4_apart (x0, x1, ()) = some (((S_etchhouseref4_apart x0 x1), ()), ((), (), ())) := ⟨0, by rw [B_etchhouseref4_apart_eq]; rfl⟩
noncomputable def E_etchhouseref4_apart : Entry Try.prog := Entry.of tok T_etchhouseref4_apart I_etchhouseref4_apart it_etchhouseref4_apart (fun (x0, x1, ()) => some (((S_etchhouseref4_apart x0 x1), ()), ((), (), ()))) (fun (x0, x1, ()) r hok h => by cases h; exact ok_etchhouseref4_apart x0 x1 hok)

end Go.Proofs.Ytimaiganehbglaa
namespace Go.Proofs.Ytimaiganehbglaa
open Go Go.VM
/-! ### etchhouse.etchhouseref4.Far -/
noncomputable def I_etchhouseref4_Far : Inst := ⟨30, Try.f30, .two (.reg []) (.two (.reg [(2, 0)]) (.leaf)), (.cons (.pv i) (.cons (.pv i) .nil)), (.cons .flat i .nil)⟩
theorem it_etchhouseref4_Far : InTab Try.prog I_etchhouseref4_Far := ⟨Try.func30, by kernel_rfl, rfl⟩
noncomputable def T_etchhouseref4_Far : Nat → Entry Try.prog := nth (Entry.no Try.f0) [E_etchhouseref4_apart]
noncomputable def B_etchhouseref4_Far (x0 : Int) (x1 : Int) : Option (((Int × Unit) × (Unit × (Unit × Unit)))) :=
  some ((S_etchhouseref4_apart x0 x1, ()), ((), ((), ())))
theorem B_etchhouseref4_Far_eq (n : Nat) (x0 : Int) (x1 : Int) : bodyE ty T_etchhouseref4_Far n I_etchhouseref4_Far (x0, (x1, ())) = B_etchhouseref4_Far x0 x1 := by kernel_rfl

end Go.Proofs.Ytimaiganehbglaa
namespace Go.Proofs.Ytimaiganehbglaa
open Go Go.VM
def S_etchhouseref4_Far (x0 : Int) (x1 : Int) : Int := S_etchhouseref4_apart x0 x1
theorem ok_etchhouseref4_Far (x0 : Int) (x1 : Int) (hok : OkA I_etchhouseref4_Far.args (x0, x1, ())) : ∃ n, bodyE ty T_etchhouseref4_Far n I_etchhouseref4_Far (x0, x1, ()) = some (((S_etchhouseref4_Far x0 x1), ()), ((), (), ())) := ⟨0, by rw [B_etchhouseref4_Far_eq]; rfl⟩
noncomputable def E_etchhouseref4_Far : Entry Try.prog := Entry.of tok T_etchhouseref4_Far I_etchhouseref4_Far it_etchhouseref4_Far (fun (x0, x1, ()) => some (((S_etchhouseref4_Far x0 x1), ()), ((), (), ()))) (fun (x0, x1, ()) r hok h => by cases h; exact ok_etchhouseref4_Far x0 x1 hok)

end Go.Proofs.Ytimaiganehbglaa
namespace Go.Proofs.Ytimaiganehbglaa
open Go Go.VM
/-! ### etchhouse.etchhouselaw4.StackNearestIsNear -/
noncomputable def I_etchhouselaw4_StackNearestIsNear : Inst := ⟨7, Try.f7, .two (.reg []) (.two (.reg [(4, 0)]) (.two (.two (.reg []) (.two (.two (.reg [(8, 1)]) (.leaf)) (.leaf))) (.two (.reg [(3, 2)]) (.two (.two (.reg []) (.two (.two (.reg []) (.leaf)) (.leaf))) (.two (.reg []) (.two (.two (.reg []) (.one (.loop ⟨[(16, .st (.at (.rf 16 []))), (56, .pv i)], [(16, ⟨(.own .flat), (.sl i), false, false⟩)], [0, 1, 2, 3, 4, 12, 55], []⟩ (.two (.reg []) (.two (.two (.leaf) (.leaf)) (.two (.one (.two (.reg []) (.two (.reg []) (.two (.two (.reg []) (.two (.reg [(5, 3)]) (.leaf))) (.reg []))))) (.reg []))))))) (.two (.reg [(3, 2)]) (.two (.reg [(4, 4), (7, 4), (11, 1)]) (.leaf))))))))), (.cons (.pv (.sl (.pair .str (.pair i (.pair i (.pair i .unit)))))) (.cons (.pv (.sl (.pair .str (.pair .str .unit)))) (.cons (.pv i) (.cons (.pv i) (.cons (.pv (.sl i)) .nil))))), (.cons .flat .bool .nil)⟩
theorem it_etchhouselaw4_StackNearestIsNear : InTab Try.prog I_etchhouselaw4_StackNearestIsNear := ⟨Try.func7, by kernel_rfl, rfl⟩
noncomputable def T_etchhouselaw4_StackNearestIsNear : Nat → Entry Try.prog := nth (Entry.no Try.f0) [E_stack_Nearest, E_etchhouselaw4_awake, E_etchhouseref4_WithSheets, E_etchhouseref4_Below, E_etchhouseref4_Far]
noncomputable def B_etchhouselaw4_StackNearestIsNear (n : Nat) (x0 : List (ByteArray × (Int × (Int × (Int × Unit))))) (x1 : List (ByteArray × (ByteArray × Unit))) (x2 : Int) (x3 : Int) (x4 : List Int) : Option (((Bool × Unit) × (Unit × (Unit × (Unit × (Unit × (Unit × Unit))))))) :=
  (bif (!(decide ((S_nearF x0 x1 x2 x3 = 0)))) then
    (bif decide (((((S_nearL x0 x1 x2 x3).length : Nat) : Int) = 0)) then
      (bif decide ((S_nearN x0 x1 x2 x3 = 0)) then
        some ((true, ()), ((), ((), ((), ((), ((), ()))))))
      else
        some ((false, ()), ((), ((), ((), ((), ((), ())))))))
    else
      some ((false, ()), ((), ((), ((), ((), ((), ())))))))
  else
    ((S_withO x0 x1 (S_nearL x0 x1 x2 x3)).bind fun ((r1aa, (r1aba, ())), ((), ((), ((), ())))) =>
    (bif (!r1aba) then
      some ((false, ()), ((), ((), ((), ((), ((), ()))))))
    else
      (bif (!(decide ((r1aa = S_nearN x0 x1 x2 x3)))) then
        some ((false, ()), ((), ((), ((), ((), ((), ()))))))
      else
        loopN (fun rec2 => fun
        | ((v2aa, ()), (v2ba, ())) =>
          (bif decide ((v2aa < (((S_nearL x0 x1 x2 x3).length : Nat) : Int))) then
            (bif decide ((v2aa < ((x4.length : Nat) : Int))) then
              (bif inB v2aa x4.length then
                ((B_etchhouseref4_Below (x4.getD v2aa.toNat (0 : Int)) x2).bind fun ((r3aa, ()), ((), ((), ()))) =>
                (bif decide (((v2ba.length + 1) ≤ 4294967296)) then
                  rec2 ((wrapI .i64 (v2aa + 1), ()), ((v2ba ++ [wrapI .i64 (1 + r3aa)]), ()))
                else
                  none))
              else
                none)
            else
              (bif decide (((v2ba.length + 1) ≤ 4294967296)) then
                rec2 ((wrapI .i64 (v2aa + 1), ()), ((v2ba ++ [1]), ()))
              else
                none))
          else
            ((S_withO x0 x1 v2ba).bind fun ((r4aa, (r4aba, ())), ((), ((), ((), ())))) =>
            (bif r4aba then
              (bif decide ((S_etchhouseref4_Far (S_nearN x0 x1 x2 x3) x3 ≤ S_etchhouseref4_Far r4aa x3)) then
                some ((true, ()), ((), ((), ((), ((), ((), ()))))))
              else
                some ((false, ()), ((), ((), ((), ((), ((), ())))))))
            else
              some ((false, ()), ((), ((), ((), ((), ((), ()))))))))))
        n ((0, ()), ([], ()))))))
theorem B_etchhouselaw4_StackNearestIsNear_eq (n : Nat) (x0 : List (ByteArray × (Int × (Int × (Int × Unit))))) (x1 : List (ByteArray × (ByteArray × Unit))) (x2 : Int) (x3 : Int) (x4 : List Int) : bodyE ty T_etchhouselaw4_StackNearestIsNear n I_etchhouselaw4_StackNearestIsNear (x0, (x1, (x2, (x3, (x4, ()))))) = B_etchhouselaw4_StackNearestIsNear n x0 x1 x2 x3 x4 := by kernel_rfl

end Go.Proofs.Ytimaiganehbglaa
namespace Go.Proofs.Ytimaiganehbglaa
open Go Go.VM
theorem below_is (a : Int) {m : Nat} (hm : 1 ≤ m) (h8 : m ≤ 8) : ∃ r : Int, 0 ≤ r ∧ r < m ∧ B_etchhouseref4_Below a (m : Int) = some ((r, ()), ((), ((), ()))) := by
  have h1 : Int.tmod a m < m := Int.tmod_lt_of_pos a (by omega)
  have h2 : -(m : Int) < Int.tmod a m := Int.lt_tmod_of_pos a (by omega)
  unfold B_etchhouseref4_Below
  rw [decide_eq_false (show ¬ ((m : Int) = 0) by omega)]
  by_cases h : Int.tmod a m < 0
  · refine ⟨Int.tmod a m + m, by omega, by omega, ?_⟩
    rw [decide_eq_true h, wrap64 (by omega) (by omega)]; rfl
  · exact ⟨Int.tmod a m, by omega, h1, by rw [decide_eq_false h]; rfl⟩
theorem far_off {base target t : Int} (ht : 0 ≤ t ∧ t ≤ 1000000) (hb : 0 ≤ base ∧ base ≤ 120000) (hg : 0 ≤ target ∧ target ≤ 1000000) : S_etchhouseref4_Far (base + t) target = offE base target t := by
  unfold S_etchhouseref4_Far S_etchhouseref4_apart offE
  by_cases h1 : base + t < target
  · rw [decide_eq_true h1, decide_eq_false (show ¬ target < base + t by omega), decide_eq_true (show base + t - target < target - base - t by omega)]
    simp only [cond_true, cond_false]
    rw [wrap64 (by omega) (by omega)]; omega
  · rw [decide_eq_false h1, decide_eq_false (show ¬ base + t - target < target - base - t by omega)]
    simp only [cond_false]
    by_cases h2 : target < base + t
    · rw [decide_eq_true h2, cond_true, wrap64 (by omega) (by omega)]
    · rw [decide_eq_false h2, cond_false, wrap64 (by omega) (by omega)]; omega
theorem ok_etchhouselaw4_StackNearestIsNear (x0 : List Mat) (x1 : List Lay) (x2 x3 : Int) (x4 : List Int) (hok : OkA I_etchhouselaw4_StackNearestIsNear.args (x0, x1, x2, x3, x4, ())) : ∃ n, bodyE ty T_etchhouselaw4_StackNearestIsNear n I_etchhouselaw4_StackNearestIsNear (x0, x1, x2, x3, x4, ()) = some ((true, ()), ((), (), (), (), (), ())) := by
  refine ⟨x1.length + 1, ?_⟩
  have hl4 : x4.length ≤ maxLen := hok.2.2.2.2.1.1
  rw [B_etchhouselaw4_StackNearestIsNear_eq]
  unfold B_etchhouselaw4_StackNearestIsNear
  by_cases hF : S_nearF x0 x1 x2 x3 = 0
  · have hok3 := near_ok hF
    have hk := hok3
    simp only [S_nearOk, Bool.and_eq_true, decide_eq_true_eq] at hk
    obtain ⟨hC, hW, hV⟩ := hk
    simp only [S_within, Bool.and_eq_true, decide_eq_true_eq] at hW hV
    obtain ⟨m, rfl⟩ : ∃ m : Nat, x2 = (m : Int) := ⟨x2.toNat, by omega⟩
    obtain ⟨g1, g2, g3, g4⟩ := glu_facts hC
    have h60 := chkS_max hC
    have hgl := gluL_len x0 x1
    obtain ⟨b, hb1, hb2, hb3⟩ := near_best (most := m) hC (by omega) (S_gluN x0 x1) x3
    have eL : S_nearL x0 x1 (m : Int) x3 = recF m (S_gluL x0 x1) b := by
      unfold S_nearL S_nearB; rw [hok3, cond_true, Int.toNat_natCast, hb1, Int.toNat_natCast]
    have eN : S_nearN x0 x1 (m : Int) x3 = S_gluN x0 x1 + b := by
      unfold S_nearN S_nearB; rw [hok3, cond_true, Int.toNat_natCast, hb1]
    obtain ⟨r1, r2, r3⟩ := rec_ok (fun g hg => (g1 g hg).1) hb2
    have len : (S_nearL x0 x1 (m : Int) x3).length = (S_gluL x0 x1).length := by rw [eL, r1]
    obtain ⟨w1, w2, w3, w4⟩ := withN_dot hC (q := S_nearL x0 x1 (m : Int) x3) (fun n hn => by rw [eL] at hn; have := r2 n hn; omega) len
    have wN : S_withN x0 x1 (S_nearL x0 x1 (m : Int) x3) = S_nearN x0 x1 (m : Int) x3 := by rw [w2, eN, eL, r3]
    have hsz : decide (x1.length ≤ 4294967296) = true := decide_eq_true (by omega)
    have o1 : S_withO x0 x1 (S_nearL x0 x1 (m : Int) x3) = some ((S_nearN x0 x1 (m : Int) x3, (true, ())), ((), ((), ((), ())))) := by
      unfold S_withO; rw [hsz, cond_true, wN, w1]
    rw [decide_eq_true hF, o1]
    simp only [Bool.not_true, cond_false, Option.bind_some, decide_true]
    have hbr : ∀ t, okF m (S_gluL x0 x1) t → t ≤ 960001 := fun t ht => by
      have h1 := ht.1
      obtain ⟨c, hc⟩ : ∃ c : Nat, c = 2000 := ⟨_, rfl⟩
      have hsum : sumF (S_gluL x0 x1) ≤ (S_gluL x0 x1).length * c := sumF_le (b := c) _ fun x hx => by have := (g1 x hx).2; omega
      have h59 : (S_gluL x0 x1).length * c ≤ 60 * c := Nat.mul_le_mul_right c g4
      rw [fewF_len] at h1
      have : m * sumF (S_gluL x0 x1) ≤ 8 * (60 * c) := Nat.mul_le_mul (by omega) (by omega)
      omega
    -- the other choice
    have key : ∀ q : List Int, q.length = (S_gluL x0 x1).length → (∀ n, n ∈ q → 1 ≤ n ∧ n ≤ (m : Int)) → ∃ wq, S_withO x0 x1 q = some ((wq, (true, ())), ((), ((), ((), ())))) ∧ S_etchhouseref4_Far (S_nearN x0 x1 (m : Int) x3) x3 ≤ S_etchhouseref4_Far wq x3 := fun q hq1 hq2 => by
      obtain ⟨v1, v2, v3, v4⟩ := withN_dot hC (q := q) (fun n hn => by have := hq2 n hn; omega) hq1
      obtain ⟨t, t1, t2⟩ := few_there (most := m) (fun g hg => (g1 g hg).1) hq1 hq2
      refine ⟨S_withN x0 x1 q, by unfold S_withO; rw [hsz, cond_true, v1], ?_⟩
      rw [v2, t1, eN, far_off (t := (t : Int)) (by have := hbr t t2; omega) ⟨g2, g3⟩ hV, far_off (t := (b : Int)) (by have := hbr b hb2; omega) ⟨g2, g3⟩ hV]
      exact hb3 t t2
    refine loop_meas (fun x => ∃ (i : Nat) (q : List Int), i ≤ (S_gluL x0 x1).length ∧ q.length = i ∧ (∀ n, n ∈ q → 1 ≤ n ∧ n ≤ (m : Int)) ∧ x = (((i : Int), ()), (q, ()))) (fun x => (S_gluL x0 x1).length - x.1.1.toNat) _ ?_ (x1.length + 1) _ ⟨0, [], Nat.zero_le _, rfl, fun n hn => (nomatch hn), rfl⟩ (by show (S_gluL x0 x1).length - (0 : Int).toNat < _; omega)
    rintro _ ⟨i, q, h1, h2, h3, rfl⟩
    by_cases hi : i < (S_gluL x0 x1).length
    · right
      have d1 : decide ((i : Int) < (((S_nearL x0 x1 (m : Int) x3).length : Nat) : Int)) = true := decide_eq_true (by omega)
      have d2 : wrapI .i64 (((i : Nat) : Int) + 1) = ((i + 1 : Nat) : Int) := (wrap64 (by omega) (by omega)).trans (by omega)
      have d3 : decide (q.length + 1 ≤ 4294967296) = true := decide_eq_true (by omega)
      have go : ∀ v : Int, 1 ≤ v → v ≤ (m : Int) → ∃ (i' : Nat) (q' : List Int), i' ≤ (S_gluL x0 x1).length ∧ q'.length = i' ∧ (∀ n, n ∈ q' → 1 ≤ n ∧ n ≤ (m : Int)) ∧ ((((i + 1 : Nat) : Int), ()), (q ++ [v], ())) = (((i' : Int), ()), (q', ())) := fun v a b => ⟨i + 1, q ++ [v], by omega, by simp [h2], fun n hn => by
        rcases List.mem_append.1 hn with hn | hn
        · exact h3 n hn
        · rw [List.mem_singleton] at hn; subst hn; exact ⟨a, b⟩, rfl⟩
      have ms : ∀ v : Int, (S_gluL x0 x1).length - (((i + 1 : Nat) : Int)).toNat < (S_gluL x0 x1).length - ((i : Int)).toNat := fun v => by rw [Int.toNat_natCast, Int.toNat_natCast]; omega
      by_cases h4 : i < x4.length
      · obtain ⟨r, r0, rm, hr⟩ := below_is (x4.getD i 0) (m := m) (by omega) (by omega)
        refine ⟨_, go (1 + r) (by omega) (by omega), ms 0, fun rec => ?_⟩
        have d4 : wrapI .i64 (1 + r) = 1 + r := wrap64 (by omega) (by omega)
        simp only [d1, d2, d3, d4, lt_nat h4, inB_nat h4, hr, cond_true, Int.toNat_natCast, Option.bind_some]
      · refine ⟨_, go 1 (Int.le_refl _) (by omega), ms 0, fun rec => ?_⟩
        have d4 : decide ((i : Int) < ((x4.length : Nat) : Int)) = false := decide_eq_false (by omega)
        simp only [d1, d2, d3, d4, cond_true, cond_false]
    · left
      intro rec
      have d1 : decide ((i : Int) < (((S_nearL x0 x1 (m : Int) x3).length : Nat) : Int)) = false := decide_eq_false (by omega)
      obtain ⟨wq, k1, k2⟩ := key q (by omega) h3
      simp only [d1, k1, decide_eq_true k2, cond_true, cond_false, Option.bind_some]
  · obtain ⟨e1, e2⟩ := near_bad hF
    rw [decide_eq_false hF, e1, e2]
    rfl
noncomputable def E_etchhouselaw4_StackNearestIsNear : Entry Try.prog := Entry.of tok T_etchhouselaw4_StackNearestIsNear I_etchhouselaw4_StackNearestIsNear it_etchhouselaw4_StackNearestIsNear (fun (x0, x1, x2, x3, x4, ()) => some ((true, ()), ((), (), (), (), (), ()))) (fun (x0, x1, x2, x3, x4, ()) r hok h => by cases h; exact ok_etchhouselaw4_StackNearestIsNear x0 x1 x2 x3 x4 hok)

end Go.Proofs.Ytimaiganehbglaa
namespace Go.Proofs.Ytimaiganehbglaa
open Go Go.VM
namespace LStackNearestIsNear
theorem law (x0 : List Mat) (x1 : List Lay) (x2 x3 : Int) (x4 : List Int) : (some ((true, ()), ((), ((), ((), ((), ((), ())))))) : Option ((Bool × Unit) × Unit × Unit × Unit × Unit × Unit × Unit)) = some ((true, ()), ((), ((), ((), ((), ((), ())))))) := rfl

end LStackNearestIsNear
end Go.Proofs.Ytimaiganehbglaa
