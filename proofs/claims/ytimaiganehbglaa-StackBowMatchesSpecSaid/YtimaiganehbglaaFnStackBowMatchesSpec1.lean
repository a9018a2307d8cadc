/- What the functions that StackBowMatchesSpec reaches compute, part 1; and that the law answers true, for all arguments that a row reads. -/
import Derived.Test.YtimaiganehbglaaProg
import Derived.Test.YtimaiganehbglaaVmStackBowMatchesSpec4
namespace Go.Proofs.Ytimaiganehbglaa
open Go Go.VM
abbrev i : Ty := .int .i64
def tab : List (Nat × Ty) := [(22, (.sl (.pair .str (.pair i (.pair i (.pair i .unit)))))), (37, (.pair .str (.pair i (.pair i (.pair i .unit))))), (9, .str), (3, i), (23, (.sl (.pair .str (.pair .str .unit)))), (35, (.pair .str (.pair .str .unit))), (4, .bool), (24, i), (5, (.int .u8)), (55, (.mp .str .bool)), (83, (.int .u64)), (43, (.sl i)), (67, (.sl (.sl (.int .i16)))), (69, (.sl (.int .i16))), (70, (.int .i16))]
def ty : Types := mkTypes tab [35]
theorem tok : TyOK Try.prog ty := tyok_of_check (by kernel_rfl)
end Go.Proofs.Ytimaiganehbglaa
namespace Go.Proofs.Ytimaiganehbglaa
open Go Go.VM
noncomputable def I_bytealg_IndexByteString : Inst := ⟨63, Try.f63, .leaf, pvs [.str, .int .u8], .cons .flat (.int .i64) .nil⟩
noncomputable def E_bytealg_IndexByteString : Entry Try.prog := Entry.ext I_bytealg_IndexByteString idxF (ext_idx Try.func63 (by kernel_rfl) rfl (by kernel_rfl) (by kernel_rfl))

end Go.Proofs.Ytimaiganehbglaa
namespace Go.Proofs.Ytimaiganehbglaa
open Go Go.VM
/-! ### internal.stringslite.IndexByte -/
noncomputable def I_stringslite_IndexByte : Inst := ⟨61, Try.f61, .two (.reg []) (.two (.reg [(2, 0)]) (.leaf)), (.cons (.pv .str) (.cons (.pv (.int .u8)) .nil)), (.cons .flat i .nil)⟩
theorem it_stringslite_IndexByte : InTab Try.prog I_stringslite_IndexByte := ⟨Try.func61, by kernel_rfl, rfl⟩
noncomputable def T_stringslite_IndexByte : Nat → Entry Try.prog := nth (Entry.no Try.f0) [E_bytealg_IndexByteString]
noncomputable def B_stringslite_IndexByte (x0 : ByteArray) (x1 : Int) : Option (((Int × Unit) × (Unit × (Unit × Unit)))) :=
  some ((S_idx x0 x1, ()), ((), ((), ())))
theorem B_stringslite_IndexByte_eq (n : Nat) (x0 : ByteArray) (x1 : Int) : bodyE ty T_stringslite_IndexByte n I_stringslite_IndexByte (x0, (x1, ())) = B_stringslite_IndexByte x0 x1 := by kernel_rfl

end Go.Proofs.Ytimaiganehbglaa
namespace Go.Proofs.Ytimaiganehbglaa
open Go Go.VM
def S_stringslite_IndexByte (x0 : ByteArray) (x1 : Int) : Int := S_idx x0 x1
theorem ok_stringslite_IndexByte (x0 : ByteArray) (x1 : Int) (hok : OkA I_stringslite_IndexByte.args (x0, x1, ())) : ∃ n, bodyE ty T_stringslite_IndexByte n I_stringslite_IndexByte (x0, x1, ()) = some (((S_stringslite_IndexByte x0 x1), ()), ((), (), ())) := ⟨0, by rw [B_stringslite_IndexByte_eq]; rfl⟩
noncomputable def E_stringslite_IndexByte : Entry Try.prog := Entry.of tok T_stringslite_IndexByte I_stringslite_IndexByte it_stringslite_IndexByte (fun (x0, x1, ()) => some (((S_stringslite_IndexByte x0 x1), ()), ((), (), ()))) (fun (x0, x1, ()) r hok h => by cases h; exact ok_stringslite_IndexByte x0 x1 hok)

end Go.Proofs.Ytimaiganehbglaa
namespace Go.Proofs.Ytimaiganehbglaa
open Go Go.VM
/-! ### strings.IndexByte -/
noncomputable def I_strings_IndexByte : Inst := ⟨55, Try.f55, .two (.reg []) (.two (.reg [(2, 0)]) (.leaf)), (.cons (.pv .str) (.cons (.pv (.int .u8)) .nil)), (.cons .flat i .nil)⟩
theorem it_strings_IndexByte : InTab Try.prog I_strings_IndexByte := ⟨Try.func55, by kernel_rfl, rfl⟩
noncomputable def T_strings_IndexByte : Nat → Entry Try.prog := nth (Entry.no Try.f0) [E_stringslite_IndexByte]
noncomputable def B_strings_IndexByte (x0 : ByteArray) (x1 : Int) : Option (((Int × Unit) × (Unit × (Unit × Unit)))) :=
  some ((S_stringslite_IndexByte x0 x1, ()), ((), ((), ())))
theorem B_strings_IndexByte_eq (n : Nat) (x0 : ByteArray) (x1 : Int) : bodyE ty T_strings_IndexByte n I_strings_IndexByte (x0, (x1, ())) = B_strings_IndexByte x0 x1 := by kernel_rfl

end Go.Proofs.Ytimaiganehbglaa
namespace Go.Proofs.Ytimaiganehbglaa
open Go Go.VM
def S_strings_IndexByte (x0 : ByteArray) (x1 : Int) : Int := S_stringslite_IndexByte x0 x1
theorem ok_strings_IndexByte (x0 : ByteArray) (x1 : Int) (hok : OkA I_strings_IndexByte.args (x0, x1, ())) : ∃ n, bodyE ty T_strings_IndexByte n I_strings_IndexByte (x0, x1, ()) = some (((S_strings_IndexByte x0 x1), ()), ((), (), ())) := ⟨0, by rw [B_strings_IndexByte_eq]; rfl⟩
noncomputable def E_strings_IndexByte : Entry Try.prog := Entry.of tok T_strings_IndexByte I_strings_IndexByte it_strings_IndexByte (fun (x0, x1, ()) => some (((S_strings_IndexByte x0 x1), ()), ((), (), ()))) (fun (x0, x1, ()) r hok h => by cases h; exact ok_strings_IndexByte x0 x1 hok)

end Go.Proofs.Ytimaiganehbglaa
namespace Go.Proofs.Ytimaiganehbglaa
open Go Go.VM
/-! ### etchhouse.netlist.IsWord -/
noncomputable def I_netlist_IsWord : Inst := ⟨35, Try.f35, .two (.reg []) (.two (.two (.reg []) (.one (.loop ⟨[(7, .pv i)], [], [0, 6], []⟩ (.two (.reg []) (.two (.two (.leaf) (.leaf)) (.two (.one (.two (.reg []) (.two (.reg []) (.two (.reg [(24, 0)]) (.two (.two (.reg []) (.leaf)) (.leaf)))))) (.reg []))))))) (.two (.reg []) (.leaf))), (.cons (.pv .str) .nil), (.cons .flat .bool .nil)⟩
theorem it_netlist_IsWord : InTab Try.prog I_netlist_IsWord := ⟨Try.func35, by kernel_rfl, rfl⟩
noncomputable def T_netlist_IsWord : Nat → Entry Try.prog := nth (Entry.no Try.f0) [E_strings_IndexByte]
noncomputable def B_netlist_IsWord (n : Nat) (x0 : ByteArray) : Option (((Bool × Unit) × (Unit × Unit))) :=
  loopN (fun rec1 => fun
  | ((v1aa, ()), ()) =>
    (bif decide ((v1aa < ((ByteArray.size x0 : Nat) : Int))) then
      (bif inB v1aa (ByteArray.size x0) then
        (bif decide ((strAt x0 v1aa.toNat < 65)) then
          (bif decide ((strAt x0 v1aa.toNat < 97)) then
            (bif decide ((strAt x0 v1aa.toNat < 48)) then
              (bif decide ((S_strings_IndexByte (strOf [95, 43, 45, 35]) (strAt x0 v1aa.toNat) < 0)) then
                some ((false, ()), ((), ()))
              else
                rec1 ((wrapI .i64 (v1aa + 1), ()), ()))
            else
              (bif decide ((57 < strAt x0 v1aa.toNat)) then
                (bif decide ((S_strings_IndexByte (strOf [95, 43, 45, 35]) (strAt x0 v1aa.toNat) < 0)) then
                  some ((false, ()), ((), ()))
                else
                  rec1 ((wrapI .i64 (v1aa + 1), ()), ()))
              else
                rec1 ((wrapI .i64 (v1aa + 1), ()), ())))
          else
            (bif decide ((122 < strAt x0 v1aa.toNat)) then
              (bif decide ((strAt x0 v1aa.toNat < 48)) then
                (bif decide ((S_strings_IndexByte (strOf [95, 43, 45, 35]) (strAt x0 v1aa.toNat) < 0)) then
                  some ((false, ()), ((), ()))
                else
                  rec1 ((wrapI .i64 (v1aa + 1), ()), ()))
              else
                (bif decide ((57 < strAt x0 v1aa.toNat)) then
                  (bif decide ((S_strings_IndexByte (strOf [95, 43, 45, 35]) (strAt x0 v1aa.toNat) < 0)) then
                    some ((false, ()), ((), ()))
                  else
                    rec1 ((wrapI .i64 (v1aa + 1), ()), ()))
                else
                  rec1 ((wrapI .i64 (v1aa + 1), ()), ())))
            else
              rec1 ((wrapI .i64 (v1aa + 1), ()), ())))
        else
          (bif decide ((90 < strAt x0 v1aa.toNat)) then
            (bif decide ((strAt x0 v1aa.toNat < 97)) then
              (bif decide ((strAt x0 v1aa.toNat < 48)) then
                (bif decide ((S_strings_IndexByte (strOf [95, 43, 45, 35]) (strAt x0 v1aa.toNat) < 0)) then
                  some ((false, ()), ((), ()))
                else
                  rec1 ((wrapI .i64 (v1aa + 1), ()), ()))
              else
                (bif decide ((57 < strAt x0 v1aa.toNat)) then
                  (bif decide ((S_strings_IndexByte (strOf [95, 43, 45, 35]) (strAt x0 v1aa.toNat) < 0)) then
                    some ((false, ()), ((), ()))
                  else
                    rec1 ((wrapI .i64 (v1aa + 1), ()), ()))
                else
                  rec1 ((wrapI .i64 (v1aa + 1), ()), ())))
            else
              (bif decide ((122 < strAt x0 v1aa.toNat)) then
                (bif decide ((strAt x0 v1aa.toNat < 48)) then
                  (bif decide ((S_strings_IndexByte (strOf [95, 43, 45, 35]) (strAt x0 v1aa.toNat) < 0)) then
                    some ((false, ()), ((), ()))
                  else
                    rec1 ((wrapI .i64 (v1aa + 1), ()), ()))
                else
                  (bif decide ((57 < strAt x0 v1aa.toNat)) then
                    (bif decide ((S_strings_IndexByte (strOf [95, 43, 45, 35]) (strAt x0 v1aa.toNat) < 0)) then
                      some ((false, ()), ((), ()))
                    else
                      rec1 ((wrapI .i64 (v1aa + 1), ()), ()))
                  else
                    rec1 ((wrapI .i64 (v1aa + 1), ()), ())))
              else
                rec1 ((wrapI .i64 (v1aa + 1), ()), ())))
          else
            rec1 ((wrapI .i64 (v1aa + 1), ()), ())))
      else
        none)
    else
      (bif decide ((1 ≤ ((ByteArray.size x0 : Nat) : Int))) then
        some ((decide ((((ByteArray.size x0 : Nat) : Int) ≤ 40)), ()), ((), ()))
      else
        some ((false, ()), ((), ())))))
  n ((0, ()), ())
theorem B_netlist_IsWord_eq (n : Nat) (x0 : ByteArray) : bodyE ty T_netlist_IsWord n I_netlist_IsWord (x0, ()) = B_netlist_IsWord n x0 := by kernel_rfl

end Go.Proofs.Ytimaiganehbglaa
namespace Go.Proofs.Ytimaiganehbglaa
open Go Go.VM
theorem ok_netlist_IsWord (x0 : ByteArray) (hok : OkA I_netlist_IsWord.args (x0, ())) : ∃ n, bodyE ty T_netlist_IsWord n I_netlist_IsWord (x0, ()) = some ((S_word x0, ()), ((), ())) := ⟨ByteArray.size x0 + 1, by
  have hl : ByteArray.size x0 ≤ maxLen := hok.1
  rw [B_netlist_IsWord_eq]
  unfold B_netlist_IsWord S_word
  refine (loop_list (l := x0.data.toList) (fun i (_ : Unit) => ((i, ()), ())) (fun a i _ => bif okB (a.toNat : Int) then .inl () else .inr (some ((false, ()), ((), ())))) (fun _ => some ((decide (1 ≤ ((ByteArray.size x0 : Nat) : Int)) && decide (((ByteArray.size x0 : Nat) : Int) ≤ 40), ()), ((), ()))) (fun i h s rec => ?_) (fun s rec => ?_) (Nat.lt_succ_self _) ()).trans ?_
  · have h' : i < ByteArray.size x0 := h
    simp only [lt_nat h', inB_nat h', strAt_nat h, succ64 h' hl, cond_true]
    generalize (x0.data.toList[i].toNat : Int) = c
    unfold okB
    simp only [show ∀ a b, S_strings_IndexByte a b = S_idx a b from fun _ _ => rfl]
    cases decide (c < 65) <;> cases decide (90 < c) <;> cases decide (c < 97) <;> cases decide (122 < c) <;> cases decide (c < 48) <;> cases decide (57 < c) <;> cases decide (S_idx (strOf [95, 43, 45, 35]) c < 0) <;> rfl
  · rw [← size_list]
    simp only [lt_self, cond_false]
    cases decide (1 ≤ ((ByteArray.size x0 : Nat) : Int)) <;> rfl
  · rw [all_go]
    cases x0.data.toList.all fun b => okB (b.toNat : Int) <;> rfl⟩
noncomputable def E_netlist_IsWord : Entry Try.prog := Entry.of tok T_netlist_IsWord I_netlist_IsWord it_netlist_IsWord (fun (x0, ()) => some ((S_word x0, ()), ((), ()))) (fun (x0, ()) r hok h => by cases h; exact ok_netlist_IsWord x0 hok)

end Go.Proofs.Ytimaiganehbglaa
namespace Go.Proofs.Ytimaiganehbglaa
open Go Go.VM
/-! ### etchhouse.stack.within -/
noncomputable def I_stack_within : Inst := ⟨36, Try.f36, .two (.reg []) (.two (.reg []) (.leaf)), (.cons (.pv i) (.cons (.pv i) (.cons (.pv i) .nil))), (.cons .flat .bool .nil)⟩
theorem it_stack_within : InTab Try.prog I_stack_within := ⟨Try.func36, by kernel_rfl, rfl⟩
noncomputable def T_stack_within : Nat → Entry Try.prog := nth (Entry.no Try.f0) []
noncomputable def B_stack_within (x0 : Int) (x1 : Int) (x2 : Int) : Option (((Bool × Unit) × (Unit × (Unit × (Unit × Unit))))) :=
  (bif decide ((x1 ≤ x0)) then
    some ((decide ((x0 ≤ x2)), ()), ((), ((), ((), ()))))
  else
    some ((false, ()), ((), ((), ((), ())))))
theorem B_stack_within_eq (n : Nat) (x0 : Int) (x1 : Int) (x2 : Int) : bodyE ty T_stack_within n I_stack_within (x0, (x1, (x2, ()))) = B_stack_within x0 x1 x2 := by kernel_rfl

end Go.Proofs.Ytimaiganehbglaa
namespace Go.Proofs.Ytimaiganehbglaa
open Go Go.VM
theorem ok_stack_within (x0 x1 x2 : Int) (hok : OkA I_stack_within.args (x0, x1, x2, ())) : ∃ n, bodyE ty T_stack_within n I_stack_within (x0, x1, x2, ()) = some ((S_within x0 x1 x2, ()), ((), (), (), ())) := ⟨0, by
  rw [B_stack_within_eq]; unfold B_stack_within S_within; cases decide (x1 ≤ x0) <;> rfl⟩
noncomputable def E_stack_within : Entry Try.prog := Entry.of tok T_stack_within I_stack_within it_stack_within (fun (x0, x1, x2, ()) => some ((S_within x0 x1 x2, ()), ((), (), (), ()))) (fun (x0, x1, x2, ()) r hok h => by cases h; exact ok_stack_within x0 x1 x2 hok)

end Go.Proofs.Ytimaiganehbglaa
namespace Go.Proofs.Ytimaiganehbglaa
open Go Go.VM
/-! ### etchhouse.stack.CheckMaterials -/
noncomputable def I_stack_CheckMaterials : Inst := ⟨11, Try.f11, .two (.reg []) (.two (.two (.reg []) (.two (.two (.reg []) (.leaf)) (.leaf))) (.two (.two (.reg []) (.one (.loop ⟨[(10, .pv i)], [], [0, 8, 9], []⟩ (.two (.reg []) (.two (.two (.leaf) (.leaf)) (.two (.one (.two (.reg []) (.one (.two (.reg [(2, 0)]) (.two (.two (.reg []) (.leaf)) (.two (.reg [(2, 1)]) (.two (.two (.reg []) (.leaf)) (.two (.reg [(2, 1), (7, 1)]) (.two (.two (.reg []) (.leaf)) (.two (.draw [] [0, 1, 2, 3, 4, 5, 6, 7, 8, 9, 10, 11, 12, 13] [4]) (.two (.two (.reg []) (.leaf)) (.leaf)))))))))))) (.reg []))))))) (.two (.reg []) (.leaf)))), (.cons (.pv (.sl (.pair .str (.pair i (.pair i (.pair i .unit)))))) .nil), (.cons .flat i .nil)⟩
theorem it_stack_CheckMaterials : InTab Try.prog I_stack_CheckMaterials := ⟨Try.func11, by kernel_rfl, rfl⟩
noncomputable def T_stack_CheckMaterials : Nat → Entry Try.prog := nth (Entry.no Try.f0) [E_netlist_IsWord, E_stack_within]
noncomputable def B_stack_CheckMaterials (n : Nat) (x0 : List (ByteArray × (Int × (Int × (Int × Unit))))) : Option (((Int × Unit) × (Unit × Unit))) :=
  (bif decide ((50 < ((x0.length : Nat) : Int))) then
    some ((2, ()), ((), ()))
  else
    loopN (fun rec1 => fun
    | ((v1aa, ()), ()) =>
      (bif decide ((v1aa < ((x0.length : Nat) : Int))) then
        (bif inB v1aa x0.length then
          (bif (!(S_word ((x0.getD v1aa.toNat ((strOf []), (0, (0, (0, ()))))).1))) then
            some ((5, ()), ((), ()))
          else
            (bif (!(S_within (((x0.getD v1aa.toNat ((strOf []), (0, (0, (0, ()))))).2).1) 1 3)) then
              some ((4, ()), ((), ()))
            else
              (bif (!(S_within ((((x0.getD v1aa.toNat ((strOf []), (0, (0, (0, ()))))).2).2).1) 1 2000)) then
                some ((1, ()), ((), ()))
              else
                (bif (!(S_within (((((x0.getD v1aa.toNat ((strOf []), (0, (0, (0, ()))))).2).2).2).1) 0 1000)) then
                  some ((1, ()), ((), ()))
                else
                  (bif decide ((0 < v1aa)) then
                    (bif inB (wrapI .i64 (v1aa - 1)) x0.length then
                      (bif (Op.bytesLess (ByteArray.toList ((x0.getD v1aa.toNat ((strOf []), (0, (0, (0, ()))))).1)) (ByteArray.toList ((x0.getD ((wrapI .i64 (v1aa - 1)).toNat) ((strOf []), (0, (0, (0, ()))))).1)) || decide ((ByteArray.toList ((x0.getD v1aa.toNat ((strOf []), (0, (0, (0, ()))))).1) = ByteArray.toList ((x0.getD ((wrapI .i64 (v1aa - 1)).toNat) ((strOf []), (0, (0, (0, ()))))).1)))) then
                        some ((8, ()), ((), ()))
                      else
                        rec1 ((wrapI .i64 (v1aa + 1), ()), ()))
                    else
                      none)
                  else
                    rec1 ((wrapI .i64 (v1aa + 1), ()), ()))))))
        else
          none)
      else
        some ((0, ()), ((), ()))))
    n ((0, ()), ()))
theorem B_stack_CheckMaterials_eq (n : Nat) (x0 : List (ByteArray × (Int × (Int × (Int × Unit))))) : bodyE ty T_stack_CheckMaterials n I_stack_CheckMaterials (x0, ()) = B_stack_CheckMaterials n x0 := by kernel_rfl

end Go.Proofs.Ytimaiganehbglaa
namespace Go.Proofs.Ytimaiganehbglaa
open Go Go.VM
theorem ok_stack_CheckMaterials (x0 : List Mat) (hok : OkA I_stack_CheckMaterials.args (x0, ())) : ∃ n, bodyE ty T_stack_CheckMaterials n I_stack_CheckMaterials (x0, ()) = some ((S_chkM x0, ()), ((), ())) := ⟨x0.length + 1, by
  have hl : x0.length ≤ maxLen := hok.1.1
  rw [B_stack_CheckMaterials_eq]
  unfold B_stack_CheckMaterials
  exact chkM_loop (R := fun a => some ((a, ()), ((), ()))) hl (Nat.lt_succ_self _)⟩
noncomputable def E_stack_CheckMaterials : Entry Try.prog := Entry.of tok T_stack_CheckMaterials I_stack_CheckMaterials it_stack_CheckMaterials (fun (x0, ()) => some ((S_chkM x0, ()), ((), ()))) (fun (x0, ()) r hok h => by cases h; exact ok_stack_CheckMaterials x0 hok)

end Go.Proofs.Ytimaiganehbglaa
namespace Go.Proofs.Ytimaiganehbglaa
open Go Go.VM
noncomputable def I_bytealg_abigen_runtime_cmpstring : Inst := ⟨64, Try.f64, .leaf, pvs [.str, .str], .cons .flat (.int .i64) .nil⟩
noncomputable def E_bytealg_abigen_runtime_cmpstring : Entry Try.prog := Entry.ext I_bytealg_abigen_runtime_cmpstring cmpF (ext_cmp Try.func64 (by kernel_rfl) rfl (by kernel_rfl) (by kernel_rfl))

end Go.Proofs.Ytimaiganehbglaa
namespace Go.Proofs.Ytimaiganehbglaa
open Go Go.VM
/-! ### internal.bytealg.CompareString -/
noncomputable def I_bytealg_CompareString : Inst := ⟨62, Try.f62, .two (.reg []) (.two (.reg [(2, 0)]) (.leaf)), (.cons (.pv .str) (.cons (.pv .str) .nil)), (.cons .flat i .nil)⟩
theorem it_bytealg_CompareString : InTab Try.prog I_bytealg_CompareString := ⟨Try.func62, by kernel_rfl, rfl⟩
noncomputable def T_bytealg_CompareString : Nat → Entry Try.prog := nth (Entry.no Try.f0) [E_bytealg_abigen_runtime_cmpstring]
noncomputable def B_bytealg_CompareString (x0 : ByteArray) (x1 : ByteArray) : Option (((Int × Unit) × (Unit × (Unit × Unit)))) :=
  some ((S_cmps x0 x1, ()), ((), ((), ())))
theorem B_bytealg_CompareString_eq (n : Nat) (x0 : ByteArray) (x1 : ByteArray) : bodyE ty T_bytealg_CompareString n I_bytealg_CompareString (x0, (x1, ())) = B_bytealg_CompareString x0 x1 := by kernel_rfl

end Go.Proofs.Ytimaiganehbglaa
namespace Go.Proofs.Ytimaiganehbglaa
open Go Go.VM
def S_bytealg_CompareString (x0 : ByteArray) (x1 : ByteArray) : Int := S_cmps x0 x1
theorem ok_bytealg_CompareString (x0 : ByteArray) (x1 : ByteArray) (hok : OkA I_bytealg_CompareString.args (x0, x1, ())) : ∃ n, bodyE ty T_bytealg_CompareString n I_bytealg_CompareString (x0, x1, ()) = some (((S_bytealg_CompareString x0 x1), ()), ((), (), ())) := ⟨0, by rw [B_bytealg_CompareString_eq]; rfl⟩
noncomputable def E_bytealg_CompareString : Entry Try.prog := Entry.of tok T_bytealg_CompareString I_bytealg_CompareString it_bytealg_CompareString (fun (x0, x1, ()) => some (((S_bytealg_CompareString x0 x1), ()), ((), (), ()))) (fun (x0, x1, ()) r hok h => by cases h; exact ok_bytealg_CompareString x0 x1 hok)

end Go.Proofs.Ytimaiganehbglaa
namespace Go.Proofs.Ytimaiganehbglaa
open Go Go.VM
/-! ### strings.Compare -/
noncomputable def I_strings_Compare : Inst := ⟨58, Try.f58, .two (.reg []) (.two (.reg [(2, 0)]) (.leaf)), (.cons (.pv .str) (.cons (.pv .str) .nil)), (.cons .flat i .nil)⟩
theorem it_strings_Compare : InTab Try.prog I_strings_Compare := ⟨Try.func58, by kernel_rfl, rfl⟩
noncomputable def T_strings_Compare : Nat → Entry Try.prog := nth (Entry.no Try.f0) [E_bytealg_CompareString]
noncomputable def B_strings_Compare (x0 : ByteArray) (x1 : ByteArray) : Option (((Int × Unit) × (Unit × (Unit × Unit)))) :=
  some ((S_bytealg_CompareString x0 x1, ()), ((), ((), ())))
theorem B_strings_Compare_eq (n : Nat) (x0 : ByteArray) (x1 : ByteArray) : bodyE ty T_strings_Compare n I_strings_Compare (x0, (x1, ())) = B_strings_Compare x0 x1 := by kernel_rfl

end Go.Proofs.Ytimaiganehbglaa
namespace Go.Proofs.Ytimaiganehbglaa
open Go Go.VM
def S_strings_Compare (x0 : ByteArray) (x1 : ByteArray) : Int := S_bytealg_CompareString x0 x1
theorem ok_strings_Compare (x0 : ByteArray) (x1 : ByteArray) (hok : OkA I_strings_Compare.args (x0, x1, ())) : ∃ n, bodyE ty T_strings_Compare n I_strings_Compare (x0, x1, ()) = some (((S_strings_Compare x0 x1), ()), ((), (), ())) := ⟨0, by rw [B_strings_Compare_eq]; rfl⟩
noncomputable def E_strings_Compare : Entry Try.prog := Entry.of tok T_strings_Compare I_strings_Compare it_strings_Compare (fun (x0, x1, ()) => some (((S_strings_Compare x0 x1), ()), ((), (), ()))) (fun (x0, x1, ()) r hok h => by cases h; exact ok_strings_Compare x0 x1 hok)

end Go.Proofs.Ytimaiganehbglaa
namespace Go.Proofs.Ytimaiganehbglaa
open Go Go.VM
/-! ### etchhouse.stack.materialOf$1 -/
noncomputable def I_stack_materialOf_1 : Inst := ⟨57, Try.f57, .two (.reg []) (.two (.reg [(3, 0)]) (.leaf)), (.cons (.pv (.pair .str (.pair i (.pair i (.pair i .unit))))) (.cons (.pv .str) .nil)), (.cons .flat i .nil)⟩
theorem it_stack_materialOf_1 : InTab Try.prog I_stack_materialOf_1 := ⟨Try.func57, by kernel_rfl, rfl⟩
noncomputable def T_stack_materialOf_1 : Nat → Entry Try.prog := nth (Entry.no Try.f0) [E_strings_Compare]
noncomputable def B_stack_materialOf_1 (x0 : (ByteArray × (Int × (Int × (Int × Unit))))) (x1 : ByteArray) : Option (((Int × Unit) × (Unit × (Unit × Unit)))) :=
  some ((S_strings_Compare x0.1 x1, ()), ((), ((), ())))
theorem B_stack_materialOf_1_eq (n : Nat) (x0 : (ByteArray × (Int × (Int × (Int × Unit))))) (x1 : ByteArray) : bodyE ty T_stack_materialOf_1 n I_stack_materialOf_1 (x0, (x1, ())) = B_stack_materialOf_1 x0 x1 := by kernel_rfl

end Go.Proofs.Ytimaiganehbglaa
namespace Go.Proofs.Ytimaiganehbglaa
open Go Go.VM
def S_stack_materialOf_1 (x0 : (ByteArray × (Int × (Int × (Int × Unit))))) (x1 : ByteArray) : Int := S_strings_Compare x0.1 x1
theorem ok_stack_materialOf_1 (x0 : (ByteArray × (Int × (Int × (Int × Unit))))) (x1 : ByteArray) (hok : OkA I_stack_materialOf_1.args (x0, x1, ())) : ∃ n, bodyE ty T_stack_materialOf_1 n I_stack_materialOf_1 (x0, x1, ()) = some (((S_stack_materialOf_1 x0 x1), ()), ((), (), ())) := ⟨0, by rw [B_stack_materialOf_1_eq]; rfl⟩
noncomputable def E_stack_materialOf_1 : Entry Try.prog := Entry.of tok T_stack_materialOf_1 I_stack_materialOf_1 it_stack_materialOf_1 (fun (x0, x1, ()) => some (((S_stack_materialOf_1 x0 x1), ()), ((), (), ()))) (fun (x0, x1, ()) r hok h => by cases h; exact ok_stack_materialOf_1 x0 x1 hok)

end Go.Proofs.Ytimaiganehbglaa
namespace Go.Proofs.Ytimaiganehbglaa
open Go Go.VM
/-! ### slices.BinarySearchFunc[[]etchhouse.api.Material,etchhouse.api.Material,string] -/
noncomputable def I_slices_BinarySearchFunc_etchhouse_api_Material_etchhouse_api_Material_string_of_stack_materialOf_1 : Inst := ⟨56, Try.f56, .two (.reg []) (.two (.reg []) (.two (.reg []) (.two (.one (.loop ⟨[(9, .pv i), (10, .pv i)], [], [0, 1, 2, 8], []⟩ (.two (.two (.reg []) (.two (.leaf) (.leaf))) (.one (.two (.reg []) (.two (.reg [(6, 0)]) (.two (.reg []) (.reg [])))))))) (.two (.reg [(11, 0)]) (.leaf))))), (.cons (.pv (.sl (.pair .str (.pair i (.pair i (.pair i .unit)))))) (.cons (.pv .str) (.cons (.fn 57 .nil) .nil))), (.cons .flat i (.cons .flat .bool .nil))⟩
theorem it_slices_BinarySearchFunc_etchhouse_api_Material_etchhouse_api_Material_string_of_stack_materialOf_1 : InTab Try.prog I_slices_BinarySearchFunc_etchhouse_api_Material_etchhouse_api_Material_string_of_stack_materialOf_1 := ⟨Try.func56, by kernel_rfl, rfl⟩
noncomputable def T_slices_BinarySearchFunc_etchhouse_api_Material_etchhouse_api_Material_string_of_stack_materialOf_1 : Nat → Entry Try.prog := nth (Entry.no Try.f0) [E_stack_materialOf_1]
noncomputable def B_slices_BinarySearchFunc_etchhouse_api_Material_etchhouse_api_Material_string_of_stack_materialOf_1 (n : Nat) (x0 : List (ByteArray × (Int × (Int × (Int × Unit))))) (x1 : ByteArray) (x2 : Unit) : Option (((Int × (Bool × Unit)) × (Unit × (Unit × (Unit × Unit))))) :=
  loopN (fun rec1 => fun
  | ((v1aa, (v1aba, ())), ()) =>
    (bif decide ((v1aa < v1aba)) then
      (bif inB (wrapI .i64 (Int.fdiv (wrapI .u64 (wrapI .i64 (v1aa + v1aba))) 2)) x0.length then
        (bif decide ((S_stack_materialOf_1 (x0.getD ((wrapI .i64 (Int.fdiv (wrapI .u64 (wrapI .i64 (v1aa + v1aba))) 2)).toNat) ((strOf []), (0, (0, (0, ()))))) x1 < 0)) then
          rec1 ((wrapI .i64 (wrapI .i64 (Int.fdiv (wrapI .u64 (wrapI .i64 (v1aa + v1aba))) 2) + 1), (v1aba, ())), ())
        else
          rec1 ((v1aa, (wrapI .i64 (Int.fdiv (wrapI .u64 (wrapI .i64 (v1aa + v1aba))) 2), ())), ()))
      else
        none)
    else
      (bif decide ((v1aa < ((x0.length : Nat) : Int))) then
        (bif inB v1aa x0.length then
          some ((v1aa, (decide ((S_stack_materialOf_1 (x0.getD v1aa.toNat ((strOf []), (0, (0, (0, ()))))) x1 = 0)), ())), ((), ((), ((), ()))))
        else
          none)
      else
        some ((v1aa, (false, ())), ((), ((), ((), ())))))))
  n ((0, (((x0.length : Nat) : Int), ())), ())
theorem B_slices_BinarySearchFunc_etchhouse_api_Material_etchhouse_api_Material_string_of_stack_materialOf_1_eq (n : Nat) (x0 : List (ByteArray × (Int × (Int × (Int × Unit))))) (x1 : ByteArray) (x2 : Unit) : bodyE ty T_slices_BinarySearchFunc_etchhouse_api_Material_etchhouse_api_Material_string_of_stack_materialOf_1 n I_slices_BinarySearchFunc_etchhouse_api_Material_etchhouse_api_Material_string_of_stack_materialOf_1 (x0, (x1, (x2, ()))) = B_slices_BinarySearchFunc_etchhouse_api_Material_etchhouse_api_Material_string_of_stack_materialOf_1 n x0 x1 x2 := by kernel_rfl

end Go.Proofs.Ytimaiganehbglaa
namespace Go.Proofs.Ytimaiganehbglaa
open Go Go.VM
def S_slices_BinarySearchFunc_etchhouse_api_Material_etchhouse_api_Material_string_of_stack_materialOf_1_i (x0 : List (ByteArray × (Int × (Int × (Int × Unit))))) (x1 : ByteArray) (x2 : Unit) : Int := ((bsI (fun a : (ByteArray × (Int × (Int × (Int × Unit)))) => S_stack_materialOf_1 a x1) x0 ((strOf []), (0, (0, (0, ())))) : Nat) : Int)
def S_slices_BinarySearchFunc_etchhouse_api_Material_etchhouse_api_Material_string_of_stack_materialOf_1_f (x0 : List (ByteArray × (Int × (Int × (Int × Unit))))) (x1 : ByteArray) (x2 : Unit) : Bool := bsF (fun a : (ByteArray × (Int × (Int × (Int × Unit)))) => S_stack_materialOf_1 a x1) x0 ((strOf []), (0, (0, (0, ()))))
theorem ok_slices_BinarySearchFunc_etchhouse_api_Material_etchhouse_api_Material_string_of_stack_materialOf_1 (x0 : List (ByteArray × (Int × (Int × (Int × Unit))))) (x1 : ByteArray) (x2 : Unit) (hok : OkA I_slices_BinarySearchFunc_etchhouse_api_Material_etchhouse_api_Material_string_of_stack_materialOf_1.args (x0, x1, x2, ())) : ∃ n, bodyE ty T_slices_BinarySearchFunc_etchhouse_api_Material_etchhouse_api_Material_string_of_stack_materialOf_1 n I_slices_BinarySearchFunc_etchhouse_api_Material_etchhouse_api_Material_string_of_stack_materialOf_1 (x0, x1, x2, ()) = some ((S_slices_BinarySearchFunc_etchhouse_api_Material_etchhouse_api_Material_string_of_stack_materialOf_1_i x0 x1 x2, S_slices_BinarySearchFunc_etchhouse_api_Material_etchhouse_api_Material_string_of_stack_materialOf_1_f x0 x1 x2, ()), ((), (), (), ())) := ⟨x0.length + 1, by
  have hl : x0.length ≤ maxLen := hok.1.1
  rw [B_slices_BinarySearchFunc_etchhouse_api_Material_etchhouse_api_Material_string_of_stack_materialOf_1_eq]
  unfold B_slices_BinarySearchFunc_etchhouse_api_Material_etchhouse_api_Material_string_of_stack_materialOf_1 S_slices_BinarySearchFunc_etchhouse_api_Material_etchhouse_api_Material_string_of_stack_materialOf_1_i S_slices_BinarySearchFunc_etchhouse_api_Material_etchhouse_api_Material_string_of_stack_materialOf_1_f
  exact bs_loop (fun a : (ByteArray × (Int × (Int × (Int × Unit)))) => S_stack_materialOf_1 a x1) (R := fun a b => ((a, b, ()), ((), (), (), ()))) hl (Nat.lt_succ_self _)⟩
noncomputable def E_slices_BinarySearchFunc_etchhouse_api_Material_etchhouse_api_Material_string_of_stack_materialOf_1 : Entry Try.prog := Entry.of tok T_slices_BinarySearchFunc_etchhouse_api_Material_etchhouse_api_Material_string_of_stack_materialOf_1 I_slices_BinarySearchFunc_etchhouse_api_Material_etchhouse_api_Material_string_of_stack_materialOf_1 it_slices_BinarySearchFunc_etchhouse_api_Material_etchhouse_api_Material_string_of_stack_materialOf_1 (fun (x0, x1, x2, ()) => some ((S_slices_BinarySearchFunc_etchhouse_api_Material_etchhouse_api_Material_string_of_stack_materialOf_1_i x0 x1 x2, S_slices_BinarySearchFunc_etchhouse_api_Material_etchhouse_api_Material_string_of_stack_materialOf_1_f x0 x1 x2, ()), ((), (), (), ()))) (fun (x0, x1, x2, ()) r hok h => by cases h; exact ok_slices_BinarySearchFunc_etchhouse_api_Material_etchhouse_api_Material_string_of_stack_materialOf_1 x0 x1 x2 hok)

end Go.Proofs.Ytimaiganehbglaa
namespace Go.Proofs.Ytimaiganehbglaa
open Go Go.VM
/-! ### etchhouse.stack.materialOf -/
noncomputable def I_stack_materialOf : Inst := ⟨39, Try.f39, .two (.reg []) (.two (.reg [(2, 0)]) (.two (.two (.reg []) (.two (.two (.reg []) (.leaf)) (.leaf))) (.two (.reg []) (.leaf)))), (.cons (.pv (.sl (.pair .str (.pair i (.pair i (.pair i .unit)))))) (.cons (.pv .str) .nil)), (.cons .flat (.pair .str (.pair i (.pair i (.pair i .unit)))) (.cons .flat .bool .nil))⟩
theorem it_stack_materialOf : InTab Try.prog I_stack_materialOf := ⟨Try.func39, by kernel_rfl, rfl⟩
noncomputable def T_stack_materialOf : Nat → Entry Try.prog := nth (Entry.no Try.f0) [E_slices_BinarySearchFunc_etchhouse_api_Material_etchhouse_api_Material_string_of_stack_materialOf_1]
noncomputable def B_stack_materialOf (x0 : List (ByteArray × (Int × (Int × (Int × Unit))))) (x1 : ByteArray) : Option ((((ByteArray × (Int × (Int × (Int × Unit)))) × (Bool × Unit)) × (Unit × (Unit × Unit)))) :=
  (bif (!(S_slices_BinarySearchFunc_etchhouse_api_Material_etchhouse_api_Material_string_of_stack_materialOf_1_f x0 x1 ())) then
    some ((((strOf []), (0, (0, (0, ())))), (false, ())), ((), ((), ())))
  else
    (bif inB (S_slices_BinarySearchFunc_etchhouse_api_Material_etchhouse_api_Material_string_of_stack_materialOf_1_i x0 x1 ()) x0.length then
      some ((x0.getD ((S_slices_BinarySearchFunc_etchhouse_api_Material_etchhouse_api_Material_string_of_stack_materialOf_1_i x0 x1 ()).toNat) ((strOf []), (0, (0, (0, ())))), (true, ())), ((), ((), ())))
    else
      none))
theorem B_stack_materialOf_eq (n : Nat) (x0 : List (ByteArray × (Int × (Int × (Int × Unit))))) (x1 : ByteArray) : bodyE ty T_stack_materialOf n I_stack_materialOf (x0, (x1, ())) = B_stack_materialOf x0 x1 := by kernel_rfl

end Go.Proofs.Ytimaiganehbglaa
namespace Go.Proofs.Ytimaiganehbglaa
open Go Go.VM
theorem ok_stack_materialOf (x0 : List Mat) (x1 : ByteArray) (hok : OkA I_stack_materialOf.args (x0, x1, ())) : ∃ n, bodyE ty T_stack_materialOf n I_stack_materialOf (x0, x1, ()) = some ((S_matP x0 x1, S_there x0 x1, ()), ((), (), ())) := ⟨0, by
  rw [B_stack_materialOf_eq]
  unfold B_stack_materialOf S_matP
  change (bif !S_there x0 x1 then _ else bif inB ((bsI (fun a : Mat => S_cmps a.1 x1) x0 mat0 : Nat) : Int) x0.length then _ else _) = _
  cases h : S_there x0 x1 with
  | false => rfl
  | true =>
    have hb : bsI (fun a : Mat => S_cmps a.1 x1) x0 mat0 < x0.length := by
      simp only [S_there, bsF, Bool.and_eq_true, decide_eq_true_eq] at h
      exact h.1
    rw [inB_nat hb]
    rfl⟩
noncomputable def E_stack_materialOf : Entry Try.prog := Entry.of tok T_stack_materialOf I_stack_materialOf it_stack_materialOf (fun (x0, x1, ()) => some ((S_matP x0 x1, S_there x0 x1, ()), ((), (), ()))) (fun (x0, x1, ()) r hok h => by cases h; exact ok_stack_materialOf x0 x1 hok)

end Go.Proofs.Ytimaiganehbglaa
namespace Go.Proofs.Ytimaiganehbglaa
open Go Go.VM
/-! ### etchhouse.stack.kindOf -/
noncomputable def I_stack_kindOf : Inst := ⟨41, Try.f41, .two (.reg []) (.two (.reg [(3, 0)]) (.two (.reg []) (.leaf))), (.cons (.pv (.sl (.pair .str (.pair i (.pair i (.pair i .unit)))))) (.cons (.pv (.pair .str (.pair .str .unit))) .nil)), (.cons .flat i .nil)⟩
theorem it_stack_kindOf : InTab Try.prog I_stack_kindOf := ⟨Try.func41, by kernel_rfl, rfl⟩
noncomputable def T_stack_kindOf : Nat → Entry Try.prog := nth (Entry.no Try.f0) [E_stack_materialOf]
noncomputable def B_stack_kindOf (x0 : List (ByteArray × (Int × (Int × (Int × Unit))))) (x1 : (ByteArray × (ByteArray × Unit))) : Option (((Int × Unit) × (Unit × (Unit × Unit)))) :=
  some ((((S_matP x0 x1.2.1).2).1, ()), ((), ((), ())))
theorem B_stack_kindOf_eq (n : Nat) (x0 : List (ByteArray × (Int × (Int × (Int × Unit))))) (x1 : (ByteArray × (ByteArray × Unit))) : bodyE ty T_stack_kindOf n I_stack_kindOf (x0, (x1, ())) = B_stack_kindOf x0 x1 := by kernel_rfl

end Go.Proofs.Ytimaiganehbglaa
namespace Go.Proofs.Ytimaiganehbglaa
open Go Go.VM
theorem ok_stack_kindOf (x0 : List Mat) (x1 : Lay) (hok : OkA I_stack_kindOf.args (x0, x1, ())) : ∃ n, bodyE ty T_stack_kindOf n I_stack_kindOf (x0, x1, ()) = some ((S_kindP x0 x1, ()), ((), (), ())) := ⟨0, by rw [B_stack_kindOf_eq]; rfl⟩
noncomputable def E_stack_kindOf : Entry Try.prog := Entry.of tok T_stack_kindOf I_stack_kindOf it_stack_kindOf (fun (x0, x1, ()) => some ((S_kindP x0 x1, ()), ((), (), ()))) (fun (x0, x1, ()) r hok h => by cases h; exact ok_stack_kindOf x0 x1 hok)

end Go.Proofs.Ytimaiganehbglaa
namespace Go.Proofs.Ytimaiganehbglaa
open Go Go.VM
/-! ### etchhouse.stack.coppers -/
noncomputable def I_stack_coppers : Inst := ⟨40, Try.f40, .two (.reg []) (.two (.reg []) (.two (.two (.reg []) (.one (.loop ⟨[(5, .st (.at (.rf 5 []))), (10, .pv i)], [(5, ⟨(.own .flat), (.sl i), false, false⟩)], [0, 8, 9], []⟩ (.two (.reg []) (.two (.two (.leaf) (.leaf)) (.two (.one (.two (.reg []) (.two (.reg [(2, 0)]) (.two (.reg []) (.leaf))))) (.reg []))))))) (.two (.reg []) (.leaf)))), (.cons (.pv (.sl (.pair .str (.pair i (.pair i (.pair i .unit)))))) (.cons (.pv (.sl (.pair .str (.pair .str .unit)))) .nil)), (.cons (.own .flat) (.sl i) .nil)⟩
theorem it_stack_coppers : InTab Try.prog I_stack_coppers := ⟨Try.func40, by kernel_rfl, rfl⟩
noncomputable def T_stack_coppers : Nat → Entry Try.prog := nth (Entry.no Try.f0) [E_stack_kindOf]
noncomputable def B_stack_coppers (n : Nat) (x0 : List (ByteArray × (Int × (Int × (Int × Unit))))) (x1 : List (ByteArray × (ByteArray × Unit))) : Option (((List Int × Unit) × (Unit × (Unit × Unit)))) :=
  loopN (fun rec1 => fun
  | ((v1aa, ()), (v1ba, ())) =>
    (bif decide ((v1aa < ((x1.length : Nat) : Int))) then
      (bif inB v1aa x1.length then
        (bif decide ((S_kindP x0 (x1.getD v1aa.toNat ((strOf []), ((strOf []), ()))) = 1)) then
          (bif decide (((v1ba.length + 1) ≤ 4294967296)) then
            rec1 ((wrapI .i64 (v1aa + 1), ()), ((v1ba ++ [v1aa]), ()))
          else
            none)
        else
          rec1 ((wrapI .i64 (v1aa + 1), ()), (v1ba, ())))
      else
        none)
    else
      some ((v1ba, ()), ((), ((), ())))))
  n ((0, ()), ([], ()))
theorem B_stack_coppers_eq (n : Nat) (x0 : List (ByteArray × (Int × (Int × (Int × Unit))))) (x1 : List (ByteArray × (ByteArray × Unit))) : bodyE ty T_stack_coppers n I_stack_coppers (x0, (x1, ())) = B_stack_coppers n x0 x1 := by kernel_rfl

end Go.Proofs.Ytimaiganehbglaa
namespace Go.Proofs.Ytimaiganehbglaa
open Go Go.VM
def S_cusO_stack_coppers (x0 : List Mat) (x1 : List Lay) : Option ((List Int × Unit) × Unit × Unit × Unit) := bif decide (x1.length ≤ 4294967296) then some ((S_cusP x0 x1, ()), ((), (), ())) else none
theorem ok_stack_coppers (x0 : List Mat) (x1 : List Lay) (hok : OkA I_stack_coppers.args (x0, x1, ())) (r) (h : S_cusO_stack_coppers x0 x1 = some r) : ∃ n, bodyE ty T_stack_coppers n I_stack_coppers (x0, x1, ()) = some r := ⟨x1.length + 1, by
  have hl : x1.length ≤ maxLen := hok.2.1.1
  rw [B_stack_coppers_eq, ← h]
  unfold S_cusO_stack_coppers at h ⊢
  cases hd : decide (x1.length ≤ 4294967296) with
  | false => rw [hd] at h; cases h
  | true =>
    unfold B_stack_coppers S_cusP
    exact idx_loop (fun l => decide (S_kindP x0 l = 1)) (R := fun a => some ((a, ()), ((), (), ()))) hl (of_decide_eq_true hd) (Nat.lt_succ_self _)⟩
noncomputable def E_stack_coppers : Entry Try.prog := Entry.of tok T_stack_coppers I_stack_coppers it_stack_coppers (fun (x0, x1, ()) => S_cusO_stack_coppers x0 x1) (fun (x0, x1, ()) r hok h => ok_stack_coppers x0 x1 hok r h)

end Go.Proofs.Ytimaiganehbglaa
namespace Go.Proofs.Ytimaiganehbglaa
open Go Go.VM
/-! ### etchhouse.stack.CheckStack -/
noncomputable def I_stack_CheckStack : Inst := ⟨13, Try.f13, .two (.reg []) (.two (.two (.reg [(1, 0)]) (.two (.reg []) (.two (.two (.reg []) (.leaf)) (.leaf)))) (.two (.two (.reg []) (.two (.two (.reg []) (.leaf)) (.leaf))) (.two (.reg []) (.two (.reg []) (.two (.two (.reg []) (.one (.loop ⟨[(7, .pv i), (25, .pv i)], [(6, ⟨.mapO, (.mp .str .bool), false, false⟩)], [0, 1, 6, 23, 24], []⟩ (.two (.reg []) (.two (.two (.leaf) (.leaf)) (.two (.one (.two (.reg []) (.two (.reg [(3, 1)]) (.two (.reg []) (.two (.one (.two (.reg []) (.two (.two (.reg []) (.leaf)) (.two (.reg [(4, 2)]) (.two (.two (.reg []) (.leaf)) (.two (.reg []) (.two (.two (.reg []) (.leaf)) (.two (.two (.reg []) (.two (.leaf) (.two (.reg []) (.two (.leaf) (.reg []))))) (.two (.two (.reg []) (.leaf)) (.leaf)))))))))) (.two (.reg []) (.reg []))))))) (.reg []))))))) (.two (.two (.reg [(2, 3)]) (.two (.reg [(7, 4), (18, 4)]) (.two (.two (.reg []) (.leaf)) (.leaf)))) (.two (.reg []) (.leaf)))))))), (.cons (.pv (.sl (.pair .str (.pair i (.pair i (.pair i .unit)))))) (.cons (.pv (.sl (.pair .str (.pair .str .unit)))) .nil)), (.cons .flat i .nil)⟩
theorem it_stack_CheckStack : InTab Try.prog I_stack_CheckStack := ⟨Try.func13, by kernel_rfl, rfl⟩
noncomputable def T_stack_CheckStack : Nat → Entry Try.prog := nth (Entry.no Try.f0) [E_stack_CheckMaterials, E_stack_materialOf, E_netlist_IsWord, E_stack_coppers, E_stack_kindOf]
noncomputable def B_stack_CheckStack (n : Nat) (x0 : List (ByteArray × (Int × (Int × (Int × Unit))))) (x1 : List (ByteArray × (ByteArray × Unit))) : Option (((Int × Unit) × (Unit × (Unit × Unit)))) :=
  (bif (!(decide ((S_chkM x0 = 0)))) then
    some ((S_chkM x0, ()), ((), ((), ())))
  else
    (bif decide ((60 < ((x1.length : Nat) : Int))) then
      some ((2, ()), ((), ((), ())))
    else
      loopN (fun rec1 => fun
      | ((v1aa, (v1aba, ())), (v1ba, ())) =>
        (bif decide ((v1aba < ((x1.length : Nat) : Int))) then
          (bif inB v1aba x1.length then
            (bif (!(S_there x0 (((x1.getD v1aba.toNat ((strOf []), ((strOf []), ()))).2).1))) then
              some ((9, ()), ((), ((), ())))
            else
              (bif decide ((((S_matP x0 (((x1.getD v1aba.toNat ((strOf []), ((strOf []), ()))).2).1)).2).1 = 1)) then
                (bif (!(S_word ((x1.getD v1aba.toNat ((strOf []), ((strOf []), ()))).1))) then
                  some ((5, ()), ((), ((), ())))
                else
                  (bif (!(decide ((((S_matP x0 (((x1.getD v1aba.toNat ((strOf []), ((strOf []), ()))).2).1)).2).1 = 1)))) then
                    (bif (!(decide ((ByteArray.toList ((x1.getD v1aba.toNat ((strOf []), ((strOf []), ()))).1) = ByteArray.toList (strOf []))))) then
                      some ((5, ()), ((), ((), ())))
                    else
                      (bif decide ((((S_matP x0 (((x1.getD v1aba.toNat ((strOf []), ((strOf []), ()))).2).1)).2).1 = 1)) then
                        (bif lookM .str .bool v1ba ((x1.getD v1aba.toNat ((strOf []), ((strOf []), ()))).1) then
                          some ((7, ()), ((), ((), ())))
                        else
                          (bif decide ((((S_matP x0 (((x1.getD v1aba.toNat ((strOf []), ((strOf []), ()))).2).1)).2).1 = 1)) then
                            (bif decide ((v1aa = 1)) then
                              (bif decide ((v1aa = 1)) then
                                some ((8, ()), ((), ((), ())))
                              else
                                rec1 ((((S_matP x0 (((x1.getD v1aba.toNat ((strOf []), ((strOf []), ()))).2).1)).2).1, (wrapI .i64 (v1aba + 1), ())), (setM .str .bool v1ba ((x1.getD v1aba.toNat ((strOf []), ((strOf []), ()))).1) true, ())))
                            else
                              (bif decide ((((S_matP x0 (((x1.getD v1aba.toNat ((strOf []), ((strOf []), ()))).2).1)).2).1 = 2)) then
                                (bif (!(decide ((v1aa = 0)))) then
                                  (bif (!(decide ((v1aa = 1)))) then
                                    (bif (!(decide ((v1aa = 1)))) then
                                      some ((8, ()), ((), ((), ())))
                                    else
                                      rec1 ((((S_matP x0 (((x1.getD v1aba.toNat ((strOf []), ((strOf []), ()))).2).1)).2).1, (wrapI .i64 (v1aba + 1), ())), (setM .str .bool v1ba ((x1.getD v1aba.toNat ((strOf []), ((strOf []), ()))).1) true, ())))
                                  else
                                    (bif decide ((v1aa = 2)) then
                                      (bif (!(decide ((((S_matP x0 (((x1.getD v1aba.toNat ((strOf []), ((strOf []), ()))).2).1)).2).1 = 1)))) then
                                        some ((8, ()), ((), ((), ())))
                                      else
                                        rec1 ((((S_matP x0 (((x1.getD v1aba.toNat ((strOf []), ((strOf []), ()))).2).1)).2).1, (wrapI .i64 (v1aba + 1), ())), (setM .str .bool v1ba ((x1.getD v1aba.toNat ((strOf []), ((strOf []), ()))).1) true, ())))
                                    else
                                      rec1 ((((S_matP x0 (((x1.getD v1aba.toNat ((strOf []), ((strOf []), ()))).2).1)).2).1, (wrapI .i64 (v1aba + 1), ())), (setM .str .bool v1ba ((x1.getD v1aba.toNat ((strOf []), ((strOf []), ()))).1) true, ()))))
                                else
                                  (bif decide ((v1aa = 2)) then
                                    (bif (!(decide ((((S_matP x0 (((x1.getD v1aba.toNat ((strOf []), ((strOf []), ()))).2).1)).2).1 = 1)))) then
                                      some ((8, ()), ((), ((), ())))
                                    else
                                      rec1 ((((S_matP x0 (((x1.getD v1aba.toNat ((strOf []), ((strOf []), ()))).2).1)).2).1, (wrapI .i64 (v1aba + 1), ())), (setM .str .bool v1ba ((x1.getD v1aba.toNat ((strOf []), ((strOf []), ()))).1) true, ())))
                                  else
                                    rec1 ((((S_matP x0 (((x1.getD v1aba.toNat ((strOf []), ((strOf []), ()))).2).1)).2).1, (wrapI .i64 (v1aba + 1), ())), (setM .str .bool v1ba ((x1.getD v1aba.toNat ((strOf []), ((strOf []), ()))).1) true, ()))))
                              else
                                (bif decide ((v1aa = 2)) then
                                  (bif (!(decide ((((S_matP x0 (((x1.getD v1aba.toNat ((strOf []), ((strOf []), ()))).2).1)).2).1 = 1)))) then
                                    some ((8, ()), ((), ((), ())))
                                  else
                                    rec1 ((((S_matP x0 (((x1.getD v1aba.toNat ((strOf []), ((strOf []), ()))).2).1)).2).1, (wrapI .i64 (v1aba + 1), ())), (setM .str .bool v1ba ((x1.getD v1aba.toNat ((strOf []), ((strOf []), ()))).1) true, ())))
                                else
                                  rec1 ((((S_matP x0 (((x1.getD v1aba.toNat ((strOf []), ((strOf []), ()))).2).1)).2).1, (wrapI .i64 (v1aba + 1), ())), (setM .str .bool v1ba ((x1.getD v1aba.toNat ((strOf []), ((strOf []), ()))).1) true, ())))))
                          else
                            (bif decide ((((S_matP x0 (((x1.getD v1aba.toNat ((strOf []), ((strOf []), ()))).2).1)).2).1 = 2)) then
                              (bif (!(decide ((v1aa = 0)))) then
                                (bif (!(decide ((v1aa = 1)))) then
                                  (bif (!(decide ((v1aa = 1)))) then
                                    some ((8, ()), ((), ((), ())))
                                  else
                                    rec1 ((((S_matP x0 (((x1.getD v1aba.toNat ((strOf []), ((strOf []), ()))).2).1)).2).1, (wrapI .i64 (v1aba + 1), ())), (setM .str .bool v1ba ((x1.getD v1aba.toNat ((strOf []), ((strOf []), ()))).1) true, ())))
                                else
                                  (bif decide ((v1aa = 2)) then
                                    (bif (!(decide ((((S_matP x0 (((x1.getD v1aba.toNat ((strOf []), ((strOf []), ()))).2).1)).2).1 = 1)))) then
                                      some ((8, ()), ((), ((), ())))
                                    else
                                      rec1 ((((S_matP x0 (((x1.getD v1aba.toNat ((strOf []), ((strOf []), ()))).2).1)).2).1, (wrapI .i64 (v1aba + 1), ())), (setM .str .bool v1ba ((x1.getD v1aba.toNat ((strOf []), ((strOf []), ()))).1) true, ())))
                                  else
                                    rec1 ((((S_matP x0 (((x1.getD v1aba.toNat ((strOf []), ((strOf []), ()))).2).1)).2).1, (wrapI .i64 (v1aba + 1), ())), (setM .str .bool v1ba ((x1.getD v1aba.toNat ((strOf []), ((strOf []), ()))).1) true, ()))))
                              else
                                (bif decide ((v1aa = 2)) then
                                  (bif (!(decide ((((S_matP x0 (((x1.getD v1aba.toNat ((strOf []), ((strOf []), ()))).2).1)).2).1 = 1)))) then
                                    some ((8, ()), ((), ((), ())))
                                  else
                                    rec1 ((((S_matP x0 (((x1.getD v1aba.toNat ((strOf []), ((strOf []), ()))).2).1)).2).1, (wrapI .i64 (v1aba + 1), ())), (setM .str .bool v1ba ((x1.getD v1aba.toNat ((strOf []), ((strOf []), ()))).1) true, ())))
                                else
                                  rec1 ((((S_matP x0 (((x1.getD v1aba.toNat ((strOf []), ((strOf []), ()))).2).1)).2).1, (wrapI .i64 (v1aba + 1), ())), (setM .str .bool v1ba ((x1.getD v1aba.toNat ((strOf []), ((strOf []), ()))).1) true, ()))))
                            else
                              (bif decide ((v1aa = 2)) then
                                (bif (!(decide ((((S_matP x0 (((x1.getD v1aba.toNat ((strOf []), ((strOf []), ()))).2).1)).2).1 = 1)))) then
                                  some ((8, ()), ((), ((), ())))
                                else
                                  rec1 ((((S_matP x0 (((x1.getD v1aba.toNat ((strOf []), ((strOf []), ()))).2).1)).2).1, (wrapI .i64 (v1aba + 1), ())), (setM .str .bool v1ba ((x1.getD v1aba.toNat ((strOf []), ((strOf []), ()))).1) true, ())))
                              else
                                rec1 ((((S_matP x0 (((x1.getD v1aba.toNat ((strOf []), ((strOf []), ()))).2).1)).2).1, (wrapI .i64 (v1aba + 1), ())), (setM .str .bool v1ba ((x1.getD v1aba.toNat ((strOf []), ((strOf []), ()))).1) true, ()))))))
                      else
                        (bif decide ((((S_matP x0 (((x1.getD v1aba.toNat ((strOf []), ((strOf []), ()))).2).1)).2).1 = 1)) then
                          (bif decide ((v1aa = 1)) then
                            (bif decide ((v1aa = 1)) then
                              some ((8, ()), ((), ((), ())))
                            else
                              rec1 ((((S_matP x0 (((x1.getD v1aba.toNat ((strOf []), ((strOf []), ()))).2).1)).2).1, (wrapI .i64 (v1aba + 1), ())), (setM .str .bool v1ba ((x1.getD v1aba.toNat ((strOf []), ((strOf []), ()))).1) true, ())))
                          else
                            (bif decide ((((S_matP x0 (((x1.getD v1aba.toNat ((strOf []), ((strOf []), ()))).2).1)).2).1 = 2)) then
                              (bif (!(decide ((v1aa = 0)))) then
                                (bif (!(decide ((v1aa = 1)))) then
                                  (bif (!(decide ((v1aa = 1)))) then
                                    some ((8, ()), ((), ((), ())))
                                  else
                                    rec1 ((((S_matP x0 (((x1.getD v1aba.toNat ((strOf []), ((strOf []), ()))).2).1)).2).1, (wrapI .i64 (v1aba + 1), ())), (setM .str .bool v1ba ((x1.getD v1aba.toNat ((strOf []), ((strOf []), ()))).1) true, ())))
                                else
                                  (bif decide ((v1aa = 2)) then
                                    (bif (!(decide ((((S_matP x0 (((x1.getD v1aba.toNat ((strOf []), ((strOf []), ()))).2).1)).2).1 = 1)))) then
                                      some ((8, ()), ((), ((), ())))
                                    else
                                      rec1 ((((S_matP x0 (((x1.getD v1aba.toNat ((strOf []), ((strOf []), ()))).2).1)).2).1, (wrapI .i64 (v1aba + 1), ())), (setM .str .bool v1ba ((x1.getD v1aba.toNat ((strOf []), ((strOf []), ()))).1) true, ())))
                                  else
                                    rec1 ((((S_matP x0 (((x1.getD v1aba.toNat ((strOf []), ((strOf []), ()))).2).1)).2).1, (wrapI .i64 (v1aba + 1), ())), (setM .str .bool v1ba ((x1.getD v1aba.toNat ((strOf []), ((strOf []), ()))).1) true, ()))))
                              else
                                (bif decide ((v1aa = 2)) then
                                  (bif (!(decide ((((S_matP x0 (((x1.getD v1aba.toNat ((strOf []), ((strOf []), ()))).2).1)).2).1 = 1)))) then
                                    some ((8, ()), ((), ((), ())))
                                  else
                                    rec1 ((((S_matP x0 (((x1.getD v1aba.toNat ((strOf []), ((strOf []), ()))).2).1)).2).1, (wrapI .i64 (v1aba + 1), ())), (setM .str .bool v1ba ((x1.getD v1aba.toNat ((strOf []), ((strOf []), ()))).1) true, ())))
                                else
                                  rec1 ((((S_matP x0 (((x1.getD v1aba.toNat ((strOf []), ((strOf []), ()))).2).1)).2).1, (wrapI .i64 (v1aba + 1), ())), (setM .str .bool v1ba ((x1.getD v1aba.toNat ((strOf []), ((strOf []), ()))).1) true, ()))))
                            else
                              (bif decide ((v1aa = 2)) then
                                (bif (!(decide ((((S_matP x0 (((x1.getD v1aba.toNat ((strOf []), ((strOf []), ()))).2).1)).2).1 = 1)))) then
                                  some ((8, ()), ((), ((), ())))
                                else
                                  rec1 ((((S_matP x0 (((x1.getD v1aba.toNat ((strOf []), ((strOf []), ()))).2).1)).2).1, (wrapI .i64 (v1aba + 1), ())), (setM .str .bool v1ba ((x1.getD v1aba.toNat ((strOf []), ((strOf []), ()))).1) true, ())))
                              else
                                rec1 ((((S_matP x0 (((x1.getD v1aba.toNat ((strOf []), ((strOf []), ()))).2).1)).2).1, (wrapI .i64 (v1aba + 1), ())), (setM .str .bool v1ba ((x1.getD v1aba.toNat ((strOf []), ((strOf []), ()))).1) true, ())))))
                        else
                          (bif decide ((((S_matP x0 (((x1.getD v1aba.toNat ((strOf []), ((strOf []), ()))).2).1)).2).1 = 2)) then
                            (bif (!(decide ((v1aa = 0)))) then
                              (bif (!(decide ((v1aa = 1)))) then
                                (bif (!(decide ((v1aa = 1)))) then
                                  some ((8, ()), ((), ((), ())))
                                else
                                  rec1 ((((S_matP x0 (((x1.getD v1aba.toNat ((strOf []), ((strOf []), ()))).2).1)).2).1, (wrapI .i64 (v1aba + 1), ())), (setM .str .bool v1ba ((x1.getD v1aba.toNat ((strOf []), ((strOf []), ()))).1) true, ())))
                              else
                                (bif decide ((v1aa = 2)) then
                                  (bif (!(decide ((((S_matP x0 (((x1.getD v1aba.toNat ((strOf []), ((strOf []), ()))).2).1)).2).1 = 1)))) then
                                    some ((8, ()), ((), ((), ())))
                                  else
                                    rec1 ((((S_matP x0 (((x1.getD v1aba.toNat ((strOf []), ((strOf []), ()))).2).1)).2).1, (wrapI .i64 (v1aba + 1), ())), (setM .str .bool v1ba ((x1.getD v1aba.toNat ((strOf []), ((strOf []), ()))).1) true, ())))
                                else
                                  rec1 ((((S_matP x0 (((x1.getD v1aba.toNat ((strOf []), ((strOf []), ()))).2).1)).2).1, (wrapI .i64 (v1aba + 1), ())), (setM .str .bool v1ba ((x1.getD v1aba.toNat ((strOf []), ((strOf []), ()))).1) true, ()))))
                            else
                              (bif decide ((v1aa = 2)) then
                                (bif (!(decide ((((S_matP x0 (((x1.getD v1aba.toNat ((strOf []), ((strOf []), ()))).2).1)).2).1 = 1)))) then
                                  some ((8, ()), ((), ((), ())))
                                else
                                  rec1 ((((S_matP x0 (((x1.getD v1aba.toNat ((strOf []), ((strOf []), ()))).2).1)).2).1, (wrapI .i64 (v1aba + 1), ())), (setM .str .bool v1ba ((x1.getD v1aba.toNat ((strOf []), ((strOf []), ()))).1) true, ())))
                              else
                                rec1 ((((S_matP x0 (((x1.getD v1aba.toNat ((strOf []), ((strOf []), ()))).2).1)).2).1, (wrapI .i64 (v1aba + 1), ())), (setM .str .bool v1ba ((x1.getD v1aba.toNat ((strOf []), ((strOf []), ()))).1) true, ()))))
                          else
                            (bif decide ((v1aa = 2)) then
                              (bif (!(decide ((((S_matP x0 (((x1.getD v1aba.toNat ((strOf []), ((strOf []), ()))).2).1)).2).1 = 1)))) then
                                some ((8, ()), ((), ((), ())))
                              else
                                rec1 ((((S_matP x0 (((x1.getD v1aba.toNat ((strOf []), ((strOf []), ()))).2).1)).2).1, (wrapI .i64 (v1aba + 1), ())), (setM .str .bool v1ba ((x1.getD v1aba.toNat ((strOf []), ((strOf []), ()))).1) true, ())))
                            else
                              rec1 ((((S_matP x0 (((x1.getD v1aba.toNat ((strOf []), ((strOf []), ()))).2).1)).2).1, (wrapI .i64 (v1aba + 1), ())), (setM .str .bool v1ba ((x1.getD v1aba.toNat ((strOf []), ((strOf []), ()))).1) true, ())))))))
                  else
                    (bif decide ((((S_matP x0 (((x1.getD v1aba.toNat ((strOf []), ((strOf []), ()))).2).1)).2).1 = 1)) then
                      (bif lookM .str .bool v1ba ((x1.getD v1aba.toNat ((strOf []), ((strOf []), ()))).1) then
                        some ((7, ()), ((), ((), ())))
                      else
                        (bif decide ((((S_matP x0 (((x1.getD v1aba.toNat ((strOf []), ((strOf []), ()))).2).1)).2).1 = 1)) then
                          (bif decide ((v1aa = 1)) then
                            (bif decide ((v1aa = 1)) then
                              some ((8, ()), ((), ((), ())))
                            else
                              rec1 ((((S_matP x0 (((x1.getD v1aba.toNat ((strOf []), ((strOf []), ()))).2).1)).2).1, (wrapI .i64 (v1aba + 1), ())), (setM .str .bool v1ba ((x1.getD v1aba.toNat ((strOf []), ((strOf []), ()))).1) true, ())))
                          else
                            (bif decide ((((S_matP x0 (((x1.getD v1aba.toNat ((strOf []), ((strOf []), ()))).2).1)).2).1 = 2)) then
                              (bif (!(decide ((v1aa = 0)))) then
                                (bif (!(decide ((v1aa = 1)))) then
                                  (bif (!(decide ((v1aa = 1)))) then
                                    some ((8, ()), ((), ((), ())))
                                  else
                                    rec1 ((((S_matP x0 (((x1.getD v1aba.toNat ((strOf []), ((strOf []), ()))).2).1)).2).1, (wrapI .i64 (v1aba + 1), ())), (setM .str .bool v1ba ((x1.getD v1aba.toNat ((strOf []), ((strOf []), ()))).1) true, ())))
                                else
                                  (bif decide ((v1aa = 2)) then
                                    (bif (!(decide ((((S_matP x0 (((x1.getD v1aba.toNat ((strOf []), ((strOf []), ()))).2).1)).2).1 = 1)))) then
                                      some ((8, ()), ((), ((), ())))
                                    else
                                      rec1 ((((S_matP x0 (((x1.getD v1aba.toNat ((strOf []), ((strOf []), ()))).2).1)).2).1, (wrapI .i64 (v1aba + 1), ())), (setM .str .bool v1ba ((x1.getD v1aba.toNat ((strOf []), ((strOf []), ()))).1) true, ())))
                                  else
                                    rec1 ((((S_matP x0 (((x1.getD v1aba.toNat ((strOf []), ((strOf []), ()))).2).1)).2).1, (wrapI .i64 (v1aba + 1), ())), (setM .str .bool v1ba ((x1.getD v1aba.toNat ((strOf []), ((strOf []), ()))).1) true, ()))))
                              else
                                (bif decide ((v1aa = 2)) then
                                  (bif (!(decide ((((S_matP x0 (((x1.getD v1aba.toNat ((strOf []), ((strOf []), ()))).2).1)).2).1 = 1)))) then
                                    some ((8, ()), ((), ((), ())))
                                  else
                                    rec1 ((((S_matP x0 (((x1.getD v1aba.toNat ((strOf []), ((strOf []), ()))).2).1)).2).1, (wrapI .i64 (v1aba + 1), ())), (setM .str .bool v1ba ((x1.getD v1aba.toNat ((strOf []), ((strOf []), ()))).1) true, ())))
                                else
                                  rec1 ((((S_matP x0 (((x1.getD v1aba.toNat ((strOf []), ((strOf []), ()))).2).1)).2).1, (wrapI .i64 (v1aba + 1), ())), (setM .str .bool v1ba ((x1.getD v1aba.toNat ((strOf []), ((strOf []), ()))).1) true, ()))))
                            else
                              (bif decide ((v1aa = 2)) then
                                (bif (!(decide ((((S_matP x0 (((x1.getD v1aba.toNat ((strOf []), ((strOf []), ()))).2).1)).2).1 = 1)))) then
                                  some ((8, ()), ((), ((), ())))
                                else
                                  rec1 ((((S_matP x0 (((x1.getD v1aba.toNat ((strOf []), ((strOf []), ()))).2).1)).2).1, (wrapI .i64 (v1aba + 1), ())), (setM .str .bool v1ba ((x1.getD v1aba.toNat ((strOf []), ((strOf []), ()))).1) true, ())))
                              else
                                rec1 ((((S_matP x0 (((x1.getD v1aba.toNat ((strOf []), ((strOf []), ()))).2).1)).2).1, (wrapI .i64 (v1aba + 1), ())), (setM .str .bool v1ba ((x1.getD v1aba.toNat ((strOf []), ((strOf []), ()))).1) true, ())))))
                        else
                          (bif decide ((((S_matP x0 (((x1.getD v1aba.toNat ((strOf []), ((strOf []), ()))).2).1)).2).1 = 2)) then
                            (bif (!(decide ((v1aa = 0)))) then
                              (bif (!(decide ((v1aa = 1)))) then
                                (bif (!(decide ((v1aa = 1)))) then
                                  some ((8, ()), ((), ((), ())))
                                else
                                  rec1 ((((S_matP x0 (((x1.getD v1aba.toNat ((strOf []), ((strOf []), ()))).2).1)).2).1, (wrapI .i64 (v1aba + 1), ())), (setM .str .bool v1ba ((x1.getD v1aba.toNat ((strOf []), ((strOf []), ()))).1) true, ())))
                              else
                                (bif decide ((v1aa = 2)) then
                                  (bif (!(decide ((((S_matP x0 (((x1.getD v1aba.toNat ((strOf []), ((strOf []), ()))).2).1)).2).1 = 1)))) then
                                    some ((8, ()), ((), ((), ())))
                                  else
                                    rec1 ((((S_matP x0 (((x1.getD v1aba.toNat ((strOf []), ((strOf []), ()))).2).1)).2).1, (wrapI .i64 (v1aba + 1), ())), (setM .str .bool v1ba ((x1.getD v1aba.toNat ((strOf []), ((strOf []), ()))).1) true, ())))
                                else
                                  rec1 ((((S_matP x0 (((x1.getD v1aba.toNat ((strOf []), ((strOf []), ()))).2).1)).2).1, (wrapI .i64 (v1aba + 1), ())), (setM .str .bool v1ba ((x1.getD v1aba.toNat ((strOf []), ((strOf []), ()))).1) true, ()))))
                            else
                              (bif decide ((v1aa = 2)) then
                                (bif (!(decide ((((S_matP x0 (((x1.getD v1aba.toNat ((strOf []), ((strOf []), ()))).2).1)).2).1 = 1)))) then
                                  some ((8, ()), ((), ((), ())))
                                else
                                  rec1 ((((S_matP x0 (((x1.getD v1aba.toNat ((strOf []), ((strOf []), ()))).2).1)).2).1, (wrapI .i64 (v1aba + 1), ())), (setM .str .bool v1ba ((x1.getD v1aba.toNat ((strOf []), ((strOf []), ()))).1) true, ())))
                              else
                                rec1 ((((S_matP x0 (((x1.getD v1aba.toNat ((strOf []), ((strOf []), ()))).2).1)).2).1, (wrapI .i64 (v1aba + 1), ())), (setM .str .bool v1ba ((x1.getD v1aba.toNat ((strOf []), ((strOf []), ()))).1) true, ()))))
                          else
                            (bif decide ((v1aa = 2)) then
                              (bif (!(decide ((((S_matP x0 (((x1.getD v1aba.toNat ((strOf []), ((strOf []), ()))).2).1)).2).1 = 1)))) then
                                some ((8, ()), ((), ((), ())))
                              else
                                rec1 ((((S_matP x0 (((x1.getD v1aba.toNat ((strOf []), ((strOf []), ()))).2).1)).2).1, (wrapI .i64 (v1aba + 1), ())), (setM .str .bool v1ba ((x1.getD v1aba.toNat ((strOf []), ((strOf []), ()))).1) true, ())))
                            else
                              rec1 ((((S_matP x0 (((x1.getD v1aba.toNat ((strOf []), ((strOf []), ()))).2).1)).2).1, (wrapI .i64 (v1aba + 1), ())), (setM .str .bool v1ba ((x1.getD v1aba.toNat ((strOf []), ((strOf []), ()))).1) true, ()))))))
                    else
                      (bif decide ((((S_matP x0 (((x1.getD v1aba.toNat ((strOf []), ((strOf []), ()))).2).1)).2).1 = 1)) then
                        (bif decide ((v1aa = 1)) then
                          (bif decide ((v1aa = 1)) then
                            some ((8, ()), ((), ((), ())))
                          else
                            rec1 ((((S_matP x0 (((x1.getD v1aba.toNat ((strOf []), ((strOf []), ()))).2).1)).2).1, (wrapI .i64 (v1aba + 1), ())), (setM .str .bool v1ba ((x1.getD v1aba.toNat ((strOf []), ((strOf []), ()))).1) true, ())))
                        else
                          (bif decide ((((S_matP x0 (((x1.getD v1aba.toNat ((strOf []), ((strOf []), ()))).2).1)).2).1 = 2)) then
                            (bif (!(decide ((v1aa = 0)))) then
                              (bif (!(decide ((v1aa = 1)))) then
                                (bif (!(decide ((v1aa = 1)))) then
                                  some ((8, ()), ((), ((), ())))
                                else
                                  rec1 ((((S_matP x0 (((x1.getD v1aba.toNat ((strOf []), ((strOf []), ()))).2).1)).2).1, (wrapI .i64 (v1aba + 1), ())), (setM .str .bool v1ba ((x1.getD v1aba.toNat ((strOf []), ((strOf []), ()))).1) true, ())))
                              else
                                (bif decide ((v1aa = 2)) then
                                  (bif (!(decide ((((S_matP x0 (((x1.getD v1aba.toNat ((strOf []), ((strOf []), ()))).2).1)).2).1 = 1)))) then
                                    some ((8, ()), ((), ((), ())))
                                  else
                                    rec1 ((((S_matP x0 (((x1.getD v1aba.toNat ((strOf []), ((strOf []), ()))).2).1)).2).1, (wrapI .i64 (v1aba + 1), ())), (setM .str .bool v1ba ((x1.getD v1aba.toNat ((strOf []), ((strOf []), ()))).1) true, ())))
                                else
                                  rec1 ((((S_matP x0 (((x1.getD v1aba.toNat ((strOf []), ((strOf []), ()))).2).1)).2).1, (wrapI .i64 (v1aba + 1), ())), (setM .str .bool v1ba ((x1.getD v1aba.toNat ((strOf []), ((strOf []), ()))).1) true, ()))))
                            else
                              (bif decide ((v1aa = 2)) then
                                (bif (!(decide ((((S_matP x0 (((x1.getD v1aba.toNat ((strOf []), ((strOf []), ()))).2).1)).2).1 = 1)))) then
                                  some ((8, ()), ((), ((), ())))
                                else
                                  rec1 ((((S_matP x0 (((x1.getD v1aba.toNat ((strOf []), ((strOf []), ()))).2).1)).2).1, (wrapI .i64 (v1aba + 1), ())), (setM .str .bool v1ba ((x1.getD v1aba.toNat ((strOf []), ((strOf []), ()))).1) true, ())))
                              else
                                rec1 ((((S_matP x0 (((x1.getD v1aba.toNat ((strOf []), ((strOf []), ()))).2).1)).2).1, (wrapI .i64 (v1aba + 1), ())), (setM .str .bool v1ba ((x1.getD v1aba.toNat ((strOf []), ((strOf []), ()))).1) true, ()))))
                          else
                            (bif decide ((v1aa = 2)) then
                              (bif (!(decide ((((S_matP x0 (((x1.getD v1aba.toNat ((strOf []), ((strOf []), ()))).2).1)).2).1 = 1)))) then
                                some ((8, ()), ((), ((), ())))
                              else
                                rec1 ((((S_matP x0 (((x1.getD v1aba.toNat ((strOf []), ((strOf []), ()))).2).1)).2).1, (wrapI .i64 (v1aba + 1), ())), (setM .str .bool v1ba ((x1.getD v1aba.toNat ((strOf []), ((strOf []), ()))).1) true, ())))
                            else
                              rec1 ((((S_matP x0 (((x1.getD v1aba.toNat ((strOf []), ((strOf []), ()))).2).1)).2).1, (wrapI .i64 (v1aba + 1), ())), (setM .str .bool v1ba ((x1.getD v1aba.toNat ((strOf []), ((strOf []), ()))).1) true, ())))))
                      else
                        (bif decide ((((S_matP x0 (((x1.getD v1aba.toNat ((strOf []), ((strOf []), ()))).2).1)).2).1 = 2)) then
                          (bif (!(decide ((v1aa = 0)))) then
                            (bif (!(decide ((v1aa = 1)))) then
                              (bif (!(decide ((v1aa = 1)))) then
                                some ((8, ()), ((), ((), ())))
                              else
                                rec1 ((((S_matP x0 (((x1.getD v1aba.toNat ((strOf []), ((strOf []), ()))).2).1)).2).1, (wrapI .i64 (v1aba + 1), ())), (setM .str .bool v1ba ((x1.getD v1aba.toNat ((strOf []), ((strOf []), ()))).1) true, ())))
                            else
                              (bif decide ((v1aa = 2)) then
                                (bif (!(decide ((((S_matP x0 (((x1.getD v1aba.toNat ((strOf []), ((strOf []), ()))).2).1)).2).1 = 1)))) then
                                  some ((8, ()), ((), ((), ())))
                                else
                                  rec1 ((((S_matP x0 (((x1.getD v1aba.toNat ((strOf []), ((strOf []), ()))).2).1)).2).1, (wrapI .i64 (v1aba + 1), ())), (setM .str .bool v1ba ((x1.getD v1aba.toNat ((strOf []), ((strOf []), ()))).1) true, ())))
                              else
                                rec1 ((((S_matP x0 (((x1.getD v1aba.toNat ((strOf []), ((strOf []), ()))).2).1)).2).1, (wrapI .i64 (v1aba + 1), ())), (setM .str .bool v1ba ((x1.getD v1aba.toNat ((strOf []), ((strOf []), ()))).1) true, ()))))
                          else
                            (bif decide ((v1aa = 2)) then
                              (bif (!(decide ((((S_matP x0 (((x1.getD v1aba.toNat ((strOf []), ((strOf []), ()))).2).1)).2).1 = 1)))) then
                                some ((8, ()), ((), ((), ())))
                              else
                                rec1 ((((S_matP x0 (((x1.getD v1aba.toNat ((strOf []), ((strOf []), ()))).2).1)).2).1, (wrapI .i64 (v1aba + 1), ())), (setM .str .bool v1ba ((x1.getD v1aba.toNat ((strOf []), ((strOf []), ()))).1) true, ())))
                            else
                              rec1 ((((S_matP x0 (((x1.getD v1aba.toNat ((strOf []), ((strOf []), ()))).2).1)).2).1, (wrapI .i64 (v1aba + 1), ())), (setM .str .bool v1ba ((x1.getD v1aba.toNat ((strOf []), ((strOf []), ()))).1) true, ()))))
                        else
                          (bif decide ((v1aa = 2)) then
                            (bif (!(decide ((((S_matP x0 (((x1.getD v1aba.toNat ((strOf []), ((strOf []), ()))).2).1)).2).1 = 1)))) then
                              some ((8, ()), ((), ((), ())))
                            else
                              rec1 ((((S_matP x0 (((x1.getD v1aba.toNat ((strOf []), ((strOf []), ()))).2).1)).2).1, (wrapI .i64 (v1aba + 1), ())), (setM .str .bool v1ba ((x1.getD v1aba.toNat ((strOf []), ((strOf []), ()))).1) true, ())))
                          else
                            rec1 ((((S_matP x0 (((x1.getD v1aba.toNat ((strOf []), ((strOf []), ()))).2).1)).2).1, (wrapI .i64 (v1aba + 1), ())), (setM .str .bool v1ba ((x1.getD v1aba.toNat ((strOf []), ((strOf []), ()))).1) true, ()))))))))
              else
                (bif (!(decide ((((S_matP x0 (((x1.getD v1aba.toNat ((strOf []), ((strOf []), ()))).2).1)).2).1 = 1)))) then
                  (bif (!(decide ((ByteArray.toList ((x1.getD v1aba.toNat ((strOf []), ((strOf []), ()))).1) = ByteArray.toList (strOf []))))) then
                    some ((5, ()), ((), ((), ())))
                  else
                    (bif decide ((((S_matP x0 (((x1.getD v1aba.toNat ((strOf []), ((strOf []), ()))).2).1)).2).1 = 1)) then
                      (bif lookM .str .bool v1ba ((x1.getD v1aba.toNat ((strOf []), ((strOf []), ()))).1) then
                        some ((7, ()), ((), ((), ())))
                      else
                        (bif decide ((((S_matP x0 (((x1.getD v1aba.toNat ((strOf []), ((strOf []), ()))).2).1)).2).1 = 1)) then
                          (bif decide ((v1aa = 1)) then
                            (bif decide ((v1aa = 1)) then
                              some ((8, ()), ((), ((), ())))
                            else
                              rec1 ((((S_matP x0 (((x1.getD v1aba.toNat ((strOf []), ((strOf []), ()))).2).1)).2).1, (wrapI .i64 (v1aba + 1), ())), (setM .str .bool v1ba ((x1.getD v1aba.toNat ((strOf []), ((strOf []), ()))).1) true, ())))
                          else
                            (bif decide ((((S_matP x0 (((x1.getD v1aba.toNat ((strOf []), ((strOf []), ()))).2).1)).2).1 = 2)) then
                              (bif (!(decide ((v1aa = 0)))) then
                                (bif (!(decide ((v1aa = 1)))) then
                                  (bif (!(decide ((v1aa = 1)))) then
                                    some ((8, ()), ((), ((), ())))
                                  else
                                    rec1 ((((S_matP x0 (((x1.getD v1aba.toNat ((strOf []), ((strOf []), ()))).2).1)).2).1, (wrapI .i64 (v1aba + 1), ())), (setM .str .bool v1ba ((x1.getD v1aba.toNat ((strOf []), ((strOf []), ()))).1) true, ())))
                                else
                                  (bif decide ((v1aa = 2)) then
                                    (bif (!(decide ((((S_matP x0 (((x1.getD v1aba.toNat ((strOf []), ((strOf []), ()))).2).1)).2).1 = 1)))) then
                                      some ((8, ()), ((), ((), ())))
                                    else
                                      rec1 ((((S_matP x0 (((x1.getD v1aba.toNat ((strOf []), ((strOf []), ()))).2).1)).2).1, (wrapI .i64 (v1aba + 1), ())), (setM .str .bool v1ba ((x1.getD v1aba.toNat ((strOf []), ((strOf []), ()))).1) true, ())))
                                  else
                                    rec1 ((((S_matP x0 (((x1.getD v1aba.toNat ((strOf []), ((strOf []), ()))).2).1)).2).1, (wrapI .i64 (v1aba + 1), ())), (setM .str .bool v1ba ((x1.getD v1aba.toNat ((strOf []), ((strOf []), ()))).1) true, ()))))
                              else
                                (bif decide ((v1aa = 2)) then
                                  (bif (!(decide ((((S_matP x0 (((x1.getD v1aba.toNat ((strOf []), ((strOf []), ()))).2).1)).2).1 = 1)))) then
                                    some ((8, ()), ((), ((), ())))
                                  else
                                    rec1 ((((S_matP x0 (((x1.getD v1aba.toNat ((strOf []), ((strOf []), ()))).2).1)).2).1, (wrapI .i64 (v1aba + 1), ())), (setM .str .bool v1ba ((x1.getD v1aba.toNat ((strOf []), ((strOf []), ()))).1) true, ())))
                                else
                                  rec1 ((((S_matP x0 (((x1.getD v1aba.toNat ((strOf []), ((strOf []), ()))).2).1)).2).1, (wrapI .i64 (v1aba + 1), ())), (setM .str .bool v1ba ((x1.getD v1aba.toNat ((strOf []), ((strOf []), ()))).1) true, ()))))
                            else
                              (bif decide ((v1aa = 2)) then
                                (bif (!(decide ((((S_matP x0 (((x1.getD v1aba.toNat ((strOf []), ((strOf []), ()))).2).1)).2).1 = 1)))) then
                                  some ((8, ()), ((), ((), ())))
                                else
                                  rec1 ((((S_matP x0 (((x1.getD v1aba.toNat ((strOf []), ((strOf []), ()))).2).1)).2).1, (wrapI .i64 (v1aba + 1), ())), (setM .str .bool v1ba ((x1.getD v1aba.toNat ((strOf []), ((strOf []), ()))).1) true, ())))
                              else
                                rec1 ((((S_matP x0 (((x1.getD v1aba.toNat ((strOf []), ((strOf []), ()))).2).1)).2).1, (wrapI .i64 (v1aba + 1), ())), (setM .str .bool v1ba ((x1.getD v1aba.toNat ((strOf []), ((strOf []), ()))).1) true, ())))))
                        else
                          (bif decide ((((S_matP x0 (((x1.getD v1aba.toNat ((strOf []), ((strOf []), ()))).2).1)).2).1 = 2)) then
                            (bif (!(decide ((v1aa = 0)))) then
                              (bif (!(decide ((v1aa = 1)))) then
                                (bif (!(decide ((v1aa = 1)))) then
                                  some ((8, ()), ((), ((), ())))
                                else
                                  rec1 ((((S_matP x0 (((x1.getD v1aba.toNat ((strOf []), ((strOf []), ()))).2).1)).2).1, (wrapI .i64 (v1aba + 1), ())), (setM .str .bool v1ba ((x1.getD v1aba.toNat ((strOf []), ((strOf []), ()))).1) true, ())))
                              else
                                (bif decide ((v1aa = 2)) then
                                  (bif (!(decide ((((S_matP x0 (((x1.getD v1aba.toNat ((strOf []), ((strOf []), ()))).2).1)).2).1 = 1)))) then
                                    some ((8, ()), ((), ((), ())))
                                  else
                                    rec1 ((((S_matP x0 (((x1.getD v1aba.toNat ((strOf []), ((strOf []), ()))).2).1)).2).1, (wrapI .i64 (v1aba + 1), ())), (setM .str .bool v1ba ((x1.getD v1aba.toNat ((strOf []), ((strOf []), ()))).1) true, ())))
                                else
                                  rec1 ((((S_matP x0 (((x1.getD v1aba.toNat ((strOf []), ((strOf []), ()))).2).1)).2).1, (wrapI .i64 (v1aba + 1), ())), (setM .str .bool v1ba ((x1.getD v1aba.toNat ((strOf []), ((strOf []), ()))).1) true, ()))))
                            else
                              (bif decide ((v1aa = 2)) then
                                (bif (!(decide ((((S_matP x0 (((x1.getD v1aba.toNat ((strOf []), ((strOf []), ()))).2).1)).2).1 = 1)))) then
                                  some ((8, ()), ((), ((), ())))
                                else
                                  rec1 ((((S_matP x0 (((x1.getD v1aba.toNat ((strOf []), ((strOf []), ()))).2).1)).2).1, (wrapI .i64 (v1aba + 1), ())), (setM .str .bool v1ba ((x1.getD v1aba.toNat ((strOf []), ((strOf []), ()))).1) true, ())))
                              else
                                rec1 ((((S_matP x0 (((x1.getD v1aba.toNat ((strOf []), ((strOf []), ()))).2).1)).2).1, (wrapI .i64 (v1aba + 1), ())), (setM .str .bool v1ba ((x1.getD v1aba.toNat ((strOf []), ((strOf []), ()))).1) true, ()))))
                          else
                            (bif decide ((v1aa = 2)) then
                              (bif (!(decide ((((S_matP x0 (((x1.getD v1aba.toNat ((strOf []), ((strOf []), ()))).2).1)).2).1 = 1)))) then
                                some ((8, ()), ((), ((), ())))
                              else
                                rec1 ((((S_matP x0 (((x1.getD v1aba.toNat ((strOf []), ((strOf []), ()))).2).1)).2).1, (wrapI .i64 (v1aba + 1), ())), (setM .str .bool v1ba ((x1.getD v1aba.toNat ((strOf []), ((strOf []), ()))).1) true, ())))
                            else
                              rec1 ((((S_matP x0 (((x1.getD v1aba.toNat ((strOf []), ((strOf []), ()))).2).1)).2).1, (wrapI .i64 (v1aba + 1), ())), (setM .str .bool v1ba ((x1.getD v1aba.toNat ((strOf []), ((strOf []), ()))).1) true, ()))))))
                    else
                      (bif decide ((((S_matP x0 (((x1.getD v1aba.toNat ((strOf []), ((strOf []), ()))).2).1)).2).1 = 1)) then
                        (bif decide ((v1aa = 1)) then
                          (bif decide ((v1aa = 1)) then
                            some ((8, ()), ((), ((), ())))
                          else
                            rec1 ((((S_matP x0 (((x1.getD v1aba.toNat ((strOf []), ((strOf []), ()))).2).1)).2).1, (wrapI .i64 (v1aba + 1), ())), (setM .str .bool v1ba ((x1.getD v1aba.toNat ((strOf []), ((strOf []), ()))).1) true, ())))
                        else
                          (bif decide ((((S_matP x0 (((x1.getD v1aba.toNat ((strOf []), ((strOf []), ()))).2).1)).2).1 = 2)) then
                            (bif (!(decide ((v1aa = 0)))) then
                              (bif (!(decide ((v1aa = 1)))) then
                                (bif (!(decide ((v1aa = 1)))) then
                                  some ((8, ()), ((), ((), ())))
                                else
                                  rec1 ((((S_matP x0 (((x1.getD v1aba.toNat ((strOf []), ((strOf []), ()))).2).1)).2).1, (wrapI .i64 (v1aba + 1), ())), (setM .str .bool v1ba ((x1.getD v1aba.toNat ((strOf []), ((strOf []), ()))).1) true, ())))
                              else
                                (bif decide ((v1aa = 2)) then
                                  (bif (!(decide ((((S_matP x0 (((x1.getD v1aba.toNat ((strOf []), ((strOf []), ()))).2).1)).2).1 = 1)))) then
                                    some ((8, ()), ((), ((), ())))
                                  else
                                    rec1 ((((S_matP x0 (((x1.getD v1aba.toNat ((strOf []), ((strOf []), ()))).2).1)).2).1, (wrapI .i64 (v1aba + 1), ())), (setM .str .bool v1ba ((x1.getD v1aba.toNat ((strOf []), ((strOf []), ()))).1) true, ())))
                                else
                                  rec1 ((((S_matP x0 (((x1.getD v1aba.toNat ((strOf []), ((strOf []), ()))).2).1)).2).1, (wrapI .i64 (v1aba + 1), ())), (setM .str .bool v1ba ((x1.getD v1aba.toNat ((strOf []), ((strOf []), ()))).1) true, ()))))
                            else
                              (bif decide ((v1aa = 2)) then
                                (bif (!(decide ((((S_matP x0 (((x1.getD v1aba.toNat ((strOf []), ((strOf []), ()))).2).1)).2).1 = 1)))) then
                                  some ((8, ()), ((), ((), ())))
                                else
                                  rec1 ((((S_matP x0 (((x1.getD v1aba.toNat ((strOf []), ((strOf []), ()))).2).1)).2).1, (wrapI .i64 (v1aba + 1), ())), (setM .str .bool v1ba ((x1.getD v1aba.toNat ((strOf []), ((strOf []), ()))).1) true, ())))
                              else
                                rec1 ((((S_matP x0 (((x1.getD v1aba.toNat ((strOf []), ((strOf []), ()))).2).1)).2).1, (wrapI .i64 (v1aba + 1), ())), (setM .str .bool v1ba ((x1.getD v1aba.toNat ((strOf []), ((strOf []), ()))).1) true, ()))))
                          else
                            (bif decide ((v1aa = 2)) then
                              (bif (!(decide ((((S_matP x0 (((x1.getD v1aba.toNat ((strOf []), ((strOf []), ()))).2).1)).2).1 = 1)))) then
                                some ((8, ()), ((), ((), ())))
                              else
                                rec1 ((((S_matP x0 (((x1.getD v1aba.toNat ((strOf []), ((strOf []), ()))).2).1)).2).1, (wrapI .i64 (v1aba + 1), ())), (setM .str .bool v1ba ((x1.getD v1aba.toNat ((strOf []), ((strOf []), ()))).1) true, ())))
                            else
                              rec1 ((((S_matP x0 (((x1.getD v1aba.toNat ((strOf []), ((strOf []), ()))).2).1)).2).1, (wrapI .i64 (v1aba + 1), ())), (setM .str .bool v1ba ((x1.getD v1aba.toNat ((strOf []), ((strOf []), ()))).1) true, ())))))
                      else
                        (bif decide ((((S_matP x0 (((x1.getD v1aba.toNat ((strOf []), ((strOf []), ()))).2).1)).2).1 = 2)) then
                          (bif (!(decide ((v1aa = 0)))) then
                            (bif (!(decide ((v1aa = 1)))) then
                              (bif (!(decide ((v1aa = 1)))) then
                                some ((8, ()), ((), ((), ())))
                              else
                                rec1 ((((S_matP x0 (((x1.getD v1aba.toNat ((strOf []), ((strOf []), ()))).2).1)).2).1, (wrapI .i64 (v1aba + 1), ())), (setM .str .bool v1ba ((x1.getD v1aba.toNat ((strOf []), ((strOf []), ()))).1) true, ())))
                            else
                              (bif decide ((v1aa = 2)) then
                                (bif (!(decide ((((S_matP x0 (((x1.getD v1aba.toNat ((strOf []), ((strOf []), ()))).2).1)).2).1 = 1)))) then
                                  some ((8, ()), ((), ((), ())))
                                else
                                  rec1 ((((S_matP x0 (((x1.getD v1aba.toNat ((strOf []), ((strOf []), ()))).2).1)).2).1, (wrapI .i64 (v1aba + 1), ())), (setM .str .bool v1ba ((x1.getD v1aba.toNat ((strOf []), ((strOf []), ()))).1) true, ())))
                              else
                                rec1 ((((S_matP x0 (((x1.getD v1aba.toNat ((strOf []), ((strOf []), ()))).2).1)).2).1, (wrapI .i64 (v1aba + 1), ())), (setM .str .bool v1ba ((x1.getD v1aba.toNat ((strOf []), ((strOf []), ()))).1) true, ()))))
                          else
                            (bif decide ((v1aa = 2)) then
                              (bif (!(decide ((((S_matP x0 (((x1.getD v1aba.toNat ((strOf []), ((strOf []), ()))).2).1)).2).1 = 1)))) then
                                some ((8, ()), ((), ((), ())))
                              else
                                rec1 ((((S_matP x0 (((x1.getD v1aba.toNat ((strOf []), ((strOf []), ()))).2).1)).2).1, (wrapI .i64 (v1aba + 1), ())), (setM .str .bool v1ba ((x1.getD v1aba.toNat ((strOf []), ((strOf []), ()))).1) true, ())))
                            else
                              rec1 ((((S_matP x0 (((x1.getD v1aba.toNat ((strOf []), ((strOf []), ()))).2).1)).2).1, (wrapI .i64 (v1aba + 1), ())), (setM .str .bool v1ba ((x1.getD v1aba.toNat ((strOf []), ((strOf []), ()))).1) true, ()))))
                        else
                          (bif decide ((v1aa = 2)) then
                            (bif (!(decide ((((S_matP x0 (((x1.getD v1aba.toNat ((strOf []), ((strOf []), ()))).2).1)).2).1 = 1)))) then
                              some ((8, ()), ((), ((), ())))
                            else
                              rec1 ((((S_matP x0 (((x1.getD v1aba.toNat ((strOf []), ((strOf []), ()))).2).1)).2).1, (wrapI .i64 (v1aba + 1), ())), (setM .str .bool v1ba ((x1.getD v1aba.toNat ((strOf []), ((strOf []), ()))).1) true, ())))
                          else
                            rec1 ((((S_matP x0 (((x1.getD v1aba.toNat ((strOf []), ((strOf []), ()))).2).1)).2).1, (wrapI .i64 (v1aba + 1), ())), (setM .str .bool v1ba ((x1.getD v1aba.toNat ((strOf []), ((strOf []), ()))).1) true, ())))))))
                else
                  (bif decide ((((S_matP x0 (((x1.getD v1aba.toNat ((strOf []), ((strOf []), ()))).2).1)).2).1 = 1)) then
                    (bif lookM .str .bool v1ba ((x1.getD v1aba.toNat ((strOf []), ((strOf []), ()))).1) then
                      some ((7, ()), ((), ((), ())))
                    else
                      (bif decide ((((S_matP x0 (((x1.getD v1aba.toNat ((strOf []), ((strOf []), ()))).2).1)).2).1 = 1)) then
                        (bif decide ((v1aa = 1)) then
                          (bif decide ((v1aa = 1)) then
                            some ((8, ()), ((), ((), ())))
                          else
                            rec1 ((((S_matP x0 (((x1.getD v1aba.toNat ((strOf []), ((strOf []), ()))).2).1)).2).1, (wrapI .i64 (v1aba + 1), ())), (setM .str .bool v1ba ((x1.getD v1aba.toNat ((strOf []), ((strOf []), ()))).1) true, ())))
                        else
                          (bif decide ((((S_matP x0 (((x1.getD v1aba.toNat ((strOf []), ((strOf []), ()))).2).1)).2).1 = 2)) then
                            (bif (!(decide ((v1aa = 0)))) then
                              (bif (!(decide ((v1aa = 1)))) then
                                (bif (!(decide ((v1aa = 1)))) then
                                  some ((8, ()), ((), ((), ())))
                                else
                                  rec1 ((((S_matP x0 (((x1.getD v1aba.toNat ((strOf []), ((strOf []), ()))).2).1)).2).1, (wrapI .i64 (v1aba + 1), ())), (setM .str .bool v1ba ((x1.getD v1aba.toNat ((strOf []), ((strOf []), ()))).1) true, ())))
                              else
                                (bif decide ((v1aa = 2)) then
                                  (bif (!(decide ((((S_matP x0 (((x1.getD v1aba.toNat ((strOf []), ((strOf []), ()))).2).1)).2).1 = 1)))) then
                                    some ((8, ()), ((), ((), ())))
                                  else
                                    rec1 ((((S_matP x0 (((x1.getD v1aba.toNat ((strOf []), ((strOf []), ()))).2).1)).2).1, (wrapI .i64 (v1aba + 1), ())), (setM .str .bool v1ba ((x1.getD v1aba.toNat ((strOf []), ((strOf []), ()))).1) true, ())))
                                else
                                  rec1 ((((S_matP x0 (((x1.getD v1aba.toNat ((strOf []), ((strOf []), ()))).2).1)).2).1, (wrapI .i64 (v1aba + 1), ())), (setM .str .bool v1ba ((x1.getD v1aba.toNat ((strOf []), ((strOf []), ()))).1) true, ()))))
                            else
                              (bif decide ((v1aa = 2)) then
                                (bif (!(decide ((((S_matP x0 (((x1.getD v1aba.toNat ((strOf []), ((strOf []), ()))).2).1)).2).1 = 1)))) then
                                  some ((8, ()), ((), ((), ())))
                                else
                                  rec1 ((((S_matP x0 (((x1.getD v1aba.toNat ((strOf []), ((strOf []), ()))).2).1)).2).1, (wrapI .i64 (v1aba + 1), ())), (setM .str .bool v1ba ((x1.getD v1aba.toNat ((strOf []), ((strOf []), ()))).1) true, ())))
                              else
                                rec1 ((((S_matP x0 (((x1.getD v1aba.toNat ((strOf []), ((strOf []), ()))).2).1)).2).1, (wrapI .i64 (v1aba + 1), ())), (setM .str .bool v1ba ((x1.getD v1aba.toNat ((strOf []), ((strOf []), ()))).1) true, ()))))
                          else
                            (bif decide ((v1aa = 2)) then
                              (bif (!(decide ((((S_matP x0 (((x1.getD v1aba.toNat ((strOf []), ((strOf []), ()))).2).1)).2).1 = 1)))) then
                                some ((8, ()), ((), ((), ())))
                              else
                                rec1 ((((S_matP x0 (((x1.getD v1aba.toNat ((strOf []), ((strOf []), ()))).2).1)).2).1, (wrapI .i64 (v1aba + 1), ())), (setM .str .bool v1ba ((x1.getD v1aba.toNat ((strOf []), ((strOf []), ()))).1) true, ())))
                            else
                              rec1 ((((S_matP x0 (((x1.getD v1aba.toNat ((strOf []), ((strOf []), ()))).2).1)).2).1, (wrapI .i64 (v1aba + 1), ())), (setM .str .bool v1ba ((x1.getD v1aba.toNat ((strOf []), ((strOf []), ()))).1) true, ())))))
                      else
                        (bif decide ((((S_matP x0 (((x1.getD v1aba.toNat ((strOf []), ((strOf []), ()))).2).1)).2).1 = 2)) then
                          (bif (!(decide ((v1aa = 0)))) then
                            (bif (!(decide ((v1aa = 1)))) then
                              (bif (!(decide ((v1aa = 1)))) then
                                some ((8, ()), ((), ((), ())))
                              else
                                rec1 ((((S_matP x0 (((x1.getD v1aba.toNat ((strOf []), ((strOf []), ()))).2).1)).2).1, (wrapI .i64 (v1aba + 1), ())), (setM .str .bool v1ba ((x1.getD v1aba.toNat ((strOf []), ((strOf []), ()))).1) true, ())))
                            else
                              (bif decide ((v1aa = 2)) then
                                (bif (!(decide ((((S_matP x0 (((x1.getD v1aba.toNat ((strOf []), ((strOf []), ()))).2).1)).2).1 = 1)))) then
                                  some ((8, ()), ((), ((), ())))
                                else
                                  rec1 ((((S_matP x0 (((x1.getD v1aba.toNat ((strOf []), ((strOf []), ()))).2).1)).2).1, (wrapI .i64 (v1aba + 1), ())), (setM .str .bool v1ba ((x1.getD v1aba.toNat ((strOf []), ((strOf []), ()))).1) true, ())))
                              else
                                rec1 ((((S_matP x0 (((x1.getD v1aba.toNat ((strOf []), ((strOf []), ()))).2).1)).2).1, (wrapI .i64 (v1aba + 1), ())), (setM .str .bool v1ba ((x1.getD v1aba.toNat ((strOf []), ((strOf []), ()))).1) true, ()))))
                          else
                            (bif decide ((v1aa = 2)) then
                              (bif (!(decide ((((S_matP x0 (((x1.getD v1aba.toNat ((strOf []), ((strOf []), ()))).2).1)).2).1 = 1)))) then
                                some ((8, ()), ((), ((), ())))
                              else
                                rec1 ((((S_matP x0 (((x1.getD v1aba.toNat ((strOf []), ((strOf []), ()))).2).1)).2).1, (wrapI .i64 (v1aba + 1), ())), (setM .str .bool v1ba ((x1.getD v1aba.toNat ((strOf []), ((strOf []), ()))).1) true, ())))
                            else
                              rec1 ((((S_matP x0 (((x1.getD v1aba.toNat ((strOf []), ((strOf []), ()))).2).1)).2).1, (wrapI .i64 (v1aba + 1), ())), (setM .str .bool v1ba ((x1.getD v1aba.toNat ((strOf []), ((strOf []), ()))).1) true, ()))))
                        else
                          (bif decide ((v1aa = 2)) then
                            (bif (!(decide ((((S_matP x0 (((x1.getD v1aba.toNat ((strOf []), ((strOf []), ()))).2).1)).2).1 = 1)))) then
                              some ((8, ()), ((), ((), ())))
                            else
                              rec1 ((((S_matP x0 (((x1.getD v1aba.toNat ((strOf []), ((strOf []), ()))).2).1)).2).1, (wrapI .i64 (v1aba + 1), ())), (setM .str .bool v1ba ((x1.getD v1aba.toNat ((strOf []), ((strOf []), ()))).1) true, ())))
                          else
                            rec1 ((((S_matP x0 (((x1.getD v1aba.toNat ((strOf []), ((strOf []), ()))).2).1)).2).1, (wrapI .i64 (v1aba + 1), ())), (setM .str .bool v1ba ((x1.getD v1aba.toNat ((strOf []), ((strOf []), ()))).1) true, ()))))))
                  else
                    (bif decide ((((S_matP x0 (((x1.getD v1aba.toNat ((strOf []), ((strOf []), ()))).2).1)).2).1 = 1)) then
                      (bif decide ((v1aa = 1)) then
                        (bif decide ((v1aa = 1)) then
                          some ((8, ()), ((), ((), ())))
                        else
                          rec1 ((((S_matP x0 (((x1.getD v1aba.toNat ((strOf []), ((strOf []), ()))).2).1)).2).1, (wrapI .i64 (v1aba + 1), ())), (setM .str .bool v1ba ((x1.getD v1aba.toNat ((strOf []), ((strOf []), ()))).1) true, ())))
                      else
                        (bif decide ((((S_matP x0 (((x1.getD v1aba.toNat ((strOf []), ((strOf []), ()))).2).1)).2).1 = 2)) then
                          (bif (!(decide ((v1aa = 0)))) then
                            (bif (!(decide ((v1aa = 1)))) then
                              (bif (!(decide ((v1aa = 1)))) then
                                some ((8, ()), ((), ((), ())))
                              else
                                rec1 ((((S_matP x0 (((x1.getD v1aba.toNat ((strOf []), ((strOf []), ()))).2).1)).2).1, (wrapI .i64 (v1aba + 1), ())), (setM .str .bool v1ba ((x1.getD v1aba.toNat ((strOf []), ((strOf []), ()))).1) true, ())))
                            else
                              (bif decide ((v1aa = 2)) then
                                (bif (!(decide ((((S_matP x0 (((x1.getD v1aba.toNat ((strOf []), ((strOf []), ()))).2).1)).2).1 = 1)))) then
                                  some ((8, ()), ((), ((), ())))
                                else
                                  rec1 ((((S_matP x0 (((x1.getD v1aba.toNat ((strOf []), ((strOf []), ()))).2).1)).2).1, (wrapI .i64 (v1aba + 1), ())), (setM .str .bool v1ba ((x1.getD v1aba.toNat ((strOf []), ((strOf []), ()))).1) true, ())))
                              else
                                rec1 ((((S_matP x0 (((x1.getD v1aba.toNat ((strOf []), ((strOf []), ()))).2).1)).2).1, (wrapI .i64 (v1aba + 1), ())), (setM .str .bool v1ba ((x1.getD v1aba.toNat ((strOf []), ((strOf []), ()))).1) true, ()))))
                          else
                            (bif decide ((v1aa = 2)) then
                              (bif (!(decide ((((S_matP x0 (((x1.getD v1aba.toNat ((strOf []), ((strOf []), ()))).2).1)).2).1 = 1)))) then
                                some ((8, ()), ((), ((), ())))
                              else
                                rec1 ((((S_matP x0 (((x1.getD v1aba.toNat ((strOf []), ((strOf []), ()))).2).1)).2).1, (wrapI .i64 (v1aba + 1), ())), (setM .str .bool v1ba ((x1.getD v1aba.toNat ((strOf []), ((strOf []), ()))).1) true, ())))
                            else
                              rec1 ((((S_matP x0 (((x1.getD v1aba.toNat ((strOf []), ((strOf []), ()))).2).1)).2).1, (wrapI .i64 (v1aba + 1), ())), (setM .str .bool v1ba ((x1.getD v1aba.toNat ((strOf []), ((strOf []), ()))).1) true, ()))))
                        else
                          (bif decide ((v1aa = 2)) then
                            (bif (!(decide ((((S_matP x0 (((x1.getD v1aba.toNat ((strOf []), ((strOf []), ()))).2).1)).2).1 = 1)))) then
                              some ((8, ()), ((), ((), ())))
                            else
                              rec1 ((((S_matP x0 (((x1.getD v1aba.toNat ((strOf []), ((strOf []), ()))).2).1)).2).1, (wrapI .i64 (v1aba + 1), ())), (setM .str .bool v1ba ((x1.getD v1aba.toNat ((strOf []), ((strOf []), ()))).1) true, ())))
                          else
                            rec1 ((((S_matP x0 (((x1.getD v1aba.toNat ((strOf []), ((strOf []), ()))).2).1)).2).1, (wrapI .i64 (v1aba + 1), ())), (setM .str .bool v1ba ((x1.getD v1aba.toNat ((strOf []), ((strOf []), ()))).1) true, ())))))
                    else
                      (bif decide ((((S_matP x0 (((x1.getD v1aba.toNat ((strOf []), ((strOf []), ()))).2).1)).2).1 = 2)) then
                        (bif (!(decide ((v1aa = 0)))) then
                          (bif (!(decide ((v1aa = 1)))) then
                            (bif (!(decide ((v1aa = 1)))) then
                              some ((8, ()), ((), ((), ())))
                            else
                              rec1 ((((S_matP x0 (((x1.getD v1aba.toNat ((strOf []), ((strOf []), ()))).2).1)).2).1, (wrapI .i64 (v1aba + 1), ())), (setM .str .bool v1ba ((x1.getD v1aba.toNat ((strOf []), ((strOf []), ()))).1) true, ())))
                          else
                            (bif decide ((v1aa = 2)) then
                              (bif (!(decide ((((S_matP x0 (((x1.getD v1aba.toNat ((strOf []), ((strOf []), ()))).2).1)).2).1 = 1)))) then
                                some ((8, ()), ((), ((), ())))
                              else
                                rec1 ((((S_matP x0 (((x1.getD v1aba.toNat ((strOf []), ((strOf []), ()))).2).1)).2).1, (wrapI .i64 (v1aba + 1), ())), (setM .str .bool v1ba ((x1.getD v1aba.toNat ((strOf []), ((strOf []), ()))).1) true, ())))
                            else
                              rec1 ((((S_matP x0 (((x1.getD v1aba.toNat ((strOf []), ((strOf []), ()))).2).1)).2).1, (wrapI .i64 (v1aba + 1), ())), (setM .str .bool v1ba ((x1.getD v1aba.toNat ((strOf []), ((strOf []), ()))).1) true, ()))))
                        else
                          (bif decide ((v1aa = 2)) then
                            (bif (!(decide ((((S_matP x0 (((x1.getD v1aba.toNat ((strOf []), ((strOf []), ()))).2).1)).2).1 = 1)))) then
                              some ((8, ()), ((), ((), ())))
                            else
                              rec1 ((((S_matP x0 (((x1.getD v1aba.toNat ((strOf []), ((strOf []), ()))).2).1)).2).1, (wrapI .i64 (v1aba + 1), ())), (setM .str .bool v1ba ((x1.getD v1aba.toNat ((strOf []), ((strOf []), ()))).1) true, ())))
                          else
                            rec1 ((((S_matP x0 (((x1.getD v1aba.toNat ((strOf []), ((strOf []), ()))).2).1)).2).1, (wrapI .i64 (v1aba + 1), ())), (setM .str .bool v1ba ((x1.getD v1aba.toNat ((strOf []), ((strOf []), ()))).1) true, ()))))
                      else
                        (bif decide ((v1aa = 2)) then
                          (bif (!(decide ((((S_matP x0 (((x1.getD v1aba.toNat ((strOf []), ((strOf []), ()))).2).1)).2).1 = 1)))) then
                            some ((8, ()), ((), ((), ())))
                          else
                            rec1 ((((S_matP x0 (((x1.getD v1aba.toNat ((strOf []), ((strOf []), ()))).2).1)).2).1, (wrapI .i64 (v1aba + 1), ())), (setM .str .bool v1ba ((x1.getD v1aba.toNat ((strOf []), ((strOf []), ()))).1) true, ())))
                        else
                          rec1 ((((S_matP x0 (((x1.getD v1aba.toNat ((strOf []), ((strOf []), ()))).2).1)).2).1, (wrapI .i64 (v1aba + 1), ())), (setM .str .bool v1ba ((x1.getD v1aba.toNat ((strOf []), ((strOf []), ()))).1) true, ())))))))))
          else
            none)
        else
          ((S_cusO_stack_coppers x0 x1).bind fun ((r2aa, ()), ((), ((), ()))) =>
          (bif decide ((((r2aa.length : Nat) : Int) < 2)) then
            some ((3, ()), ((), ((), ())))
          else
            (bif inB 0 x1.length then
              (bif (!(decide ((S_kindP x0 (x1.getD 0 ((strOf []), ((strOf []), ()))) = 1)))) then
                some ((3, ()), ((), ((), ())))
              else
                (bif inB (wrapI .i64 (((x1.length : Nat) : Int) - 1)) x1.length then
                  (bif (!(decide ((S_kindP x0 (x1.getD ((wrapI .i64 (((x1.length : Nat) : Int) - 1)).toNat) ((strOf []), ((strOf []), ()))) = 1)))) then
                    some ((3, ()), ((), ((), ())))
                  else
                    some ((0, ()), ((), ((), ()))))
                else
                  none))
            else
              none)))))
      n ((0, (0, ())), ([], ()))))
theorem B_stack_CheckStack_eq (n : Nat) (x0 : List (ByteArray × (Int × (Int × (Int × Unit))))) (x1 : List (ByteArray × (ByteArray × Unit))) : bodyE ty T_stack_CheckStack n I_stack_CheckStack (x0, (x1, ())) = B_stack_CheckStack n x0 x1 := by kernel_rfl

end Go.Proofs.Ytimaiganehbglaa
namespace Go.Proofs.Ytimaiganehbglaa
open Go Go.VM
def layI (m : List Mat) (s : List Lay) (i : Nat) (t : Int × List (ByteArray × Bool)) : Prop :=
  t.1 = (bif decide (i = 0) then 0 else S_kindR m (s.getD (i - 1) lay0)) ∧ (0 < i → t.1 ≠ 0) ∧ ∀ z, lookM .str .bool t.2 z = (s.take i).any (fun x => decide (x.1 = z))
theorem ok_stack_CheckStack (x0 : List Mat) (x1 : List Lay) (hok : OkA I_stack_CheckStack.args (x0, x1, ())) : ∃ n, bodyE ty T_stack_CheckStack n I_stack_CheckStack (x0, x1, ()) = some ((S_chkS x0 x1, ()), ((), (), ())) := ⟨x1.length + 1, by
  have hl : x1.length ≤ maxLen := hok.2.1.1
  rw [B_stack_CheckStack_eq]
  unfold B_stack_CheckStack S_chkS
  cases hM : decide (S_chkM x0 = 0) with
  | false => rfl
  | true =>
  have hM := of_decide_eq_true hM
  simp only [Bool.not_true, cond_false, cond_true]
  cases h6 : decide ((60 : Int) < (x1.length : Int)) with
  | true => rfl
  | false =>
  have h6 := of_decide_eq_false h6
  simp only [cond_false]
  refine (loop_listI (l := x1) (fun i (s : Int × List (ByteArray × Bool)) => ((s.1, (i, ())), (s.2, ()))) (layI x0 x1) (fun a i s => bif decide (layC x0 x1 a i = 0) then .inl (S_kindR x0 a, setM .str .bool s.2 a.1 true) else .inr (some ((layC x0 x1 a i, ()), ((), (), ())))) (fun _ => some ((bif S_form x0 x1 then 0 else 3, ()), ((), (), ()))) (fun i h s hI => ⟨fun s' e => ?_, fun rec => ?_⟩) (fun s _ rec => ?_) (Nat.lt_succ_self _) (s := (0, [])) ⟨rfl, fun h => absurd h (Nat.lt_irrefl _), fun z => rfl⟩).trans ?_
  · cases hc : decide (layC x0 x1 x1[i] i = 0) with
    | false => rw [hc] at e; cases e
    | true =>
      rw [hc, cond_true] at e
      cases e
      refine ⟨?_, fun _ h0 => ?_, fun z => ?_⟩
      · rw [decide_eq_false (show ¬ i + 1 = 0 by omega), cond_false, Nat.add_sub_cancel, getD_at h]
      · have hc := of_decide_eq_true hc
        unfold layC at hc
        rw [decide_eq_true h0, cond_true] at hc
        cases hc
      · show lookM .str .bool (setM .str .bool s.2 x1[i].1 true) z = _
        rw [lookM_setM rfl, take_any h, hI.2.2 z]
        have : Ty.eqv .str z x1[i].1 = decide (x1[i].1 = z) := by rw [Bool.eq_iff_iff, eqv_iff (t := .str) rfl]; simp only [decide_eq_true_eq]; exact eq_comm
        rw [this]
        cases decide (x1[i].1 = z) <;> cases (x1.take i).any (fun x => decide (x.1 = z)) <;> rfl
  · obtain ⟨b, mp⟩ := s
    obtain ⟨h1, h2, h3⟩ := hI
    simp only at h1 h2 h3
    have hlk : lookM .str .bool mp x1[i].1 = (x1.take i).any (fun x => decide (x.1 = x1[i].1)) := h3 _
    simp only [lt_nat h, inB_nat h, getD_lt h, succ64 h hl, cond_true, (matP_eq hM _).1, (matP_eq hM _).2, str_dec, hlk]
    unfold layC S_kindR
    generalize (x1.take i).any (fun x => decide (x.1 = x1[i].1)) = tw
    generalize S_word x1[i].1 = w
    generalize decide (x1[i].1 = strOf []) = em
    generalize (S_matR x0 x1[i].2.1).2.1 = k
    by_cases h0 : i = 0
    · subst h0
      have hb : b = 0 := h1
      subst hb
      simp only [decide_true, cond_true]
      cases decide (k = 0) with
      | true => rfl
      | false => cases decide (k = 1) <;> cases decide (k = 2) <;> cases w <;> cases em <;> cases tw <;> rfl
    · rw [decide_eq_false h0, cond_false] at h1
      have hb : decide (b = 0) = false := decide_eq_false (h2 (by omega))
      have h1' : (S_matR x0 (x1.getD (i - 1) lay0).2.1).2.1 = b := h1.symm
      simp only [decide_eq_false h0, hb, cond_false, h1']
      cases decide (k = 0) with
      | true => rfl
      | false =>
        cases decide (k = 1) with
        | true => cases w <;> cases tw <;> cases decide (b = 1) <;> cases decide (b = 2) <;> cases decide (k = 2) <;> rfl
        | false => cases em <;> cases decide (b = 1) <;> cases decide (b = 2) <;> cases decide (k = 2) <;> rfl
  · have c1 : decide (x1.length ≤ 4294967296) = true := decide_eq_true (by omega)
    simp only [lt_self, cond_false]
    unfold S_cusO_stack_coppers
    rw [c1, cond_true, cusP_eq hM]
    simp only [kindP_eq hM, Option.bind_some]
    unfold S_form S_isCuR
    have hle : (S_cusR x0 x1).length ≤ x1.length := idxP_len _ _
    by_cases h2 : ((S_cusR x0 x1).length : Int) < 2
    · rw [decide_eq_true h2, decide_eq_false (show ¬ (2 : Int) ≤ ((S_cusR x0 x1).length : Int) by omega)]; rfl
    · have e2 : wrapI .i64 ((x1.length : Int) - 1) = ((x1.length - 1 : Nat) : Int) := by rw [wrap64 (by omega) (by omega)]; omega
      have e3 : inB (0 : Int) x1.length = true := inB_nat (i := 0) (by omega)
      rw [decide_eq_false h2, decide_eq_true (show (2 : Int) ≤ ((S_cusR x0 x1).length : Int) by omega), e2, e3, inB_nat (show x1.length - 1 < x1.length by omega), Int.toNat_natCast]
      change (bif !decide (S_kindR x0 (x1.getD 0 lay0) = 1) then _ else _) = _
      cases decide (S_kindR x0 (x1.getD 0 lay0) = 1) with
      | false => rfl
      | true =>
        change (bif !decide (S_kindR x0 (x1.getD (x1.length - 1) lay0) = 1) then _ else _) = _
        cases decide (S_kindR x0 (x1.getD (x1.length - 1) lay0) = 1) <;> rfl
  · rw [first_goS (f := layC x0 x1) (R := fun a => some ((a, ()), ((), (), ())))]
    cases decide (firstC (layC x0 x1) x1 0 = 0) <;> rfl⟩
noncomputable def E_stack_CheckStack : Entry Try.prog := Entry.of tok T_stack_CheckStack I_stack_CheckStack it_stack_CheckStack (fun (x0, x1, ()) => some ((S_chkS x0 x1, ()), ((), (), ()))) (fun (x0, x1, ()) r hok h => by cases h; exact ok_stack_CheckStack x0 x1 hok)

end Go.Proofs.Ytimaiganehbglaa
namespace Go.Proofs.Ytimaiganehbglaa
open Go Go.VM
/-! ### slices.Clone[[]etchhouse.api.Layer,etchhouse.api.Layer] -/
noncomputable def I_slices_Clone_etchhouse_api_Layer_etchhouse_api_Layer : Inst := ⟨47, Try.f47, .two (.reg []) (.two (.two (.reg []) (.two (.two (.reg []) (.leaf)) (.leaf))) (.two (.reg []) (.leaf))), (.cons (.pv (.sl (.pair .str (.pair .str .unit)))) .nil), (.cons (.own .flat) (.sl (.pair .str (.pair .str .unit))) .nil)⟩
theorem it_slices_Clone_etchhouse_api_Layer_etchhouse_api_Layer : InTab Try.prog I_slices_Clone_etchhouse_api_Layer_etchhouse_api_Layer := ⟨Try.func47, by kernel_rfl, rfl⟩
noncomputable def T_slices_Clone_etchhouse_api_Layer_etchhouse_api_Layer : Nat → Entry Try.prog := nth (Entry.no Try.f0) []
noncomputable def B_slices_Clone_etchhouse_api_Layer_etchhouse_api_Layer (x0 : List (ByteArray × (ByteArray × Unit))) : Option (((List (ByteArray × (ByteArray × Unit)) × Unit) × (Unit × Unit))) :=
  (bif x0.isEmpty then
    unk (fun b1 =>
      (bif b1 then
        some (([], ()), ((), ()))
      else
        (bif decide (((0 + x0.length) ≤ 4294967296)) then
          some ((x0, ()), ((), ()))
        else
          none)))
  else
    (bif decide (((0 + x0.length) ≤ 4294967296)) then
      some ((x0, ()), ((), ()))
    else
      none))
theorem B_slices_Clone_etchhouse_api_Layer_etchhouse_api_Layer_eq (n : Nat) (x0 : List (ByteArray × (ByteArray × Unit))) : bodyE ty T_slices_Clone_etchhouse_api_Layer_etchhouse_api_Layer n I_slices_Clone_etchhouse_api_Layer_etchhouse_api_Layer (x0, ()) = B_slices_Clone_etchhouse_api_Layer_etchhouse_api_Layer x0 := by kernel_rfl

end Go.Proofs.Ytimaiganehbglaa
namespace Go.Proofs.Ytimaiganehbglaa
open Go Go.VM
theorem ok_slices_Clone_etchhouse_api_Layer_etchhouse_api_Layer (x0 : List (ByteArray × (ByteArray × Unit))) (hok : OkA I_slices_Clone_etchhouse_api_Layer_etchhouse_api_Layer.args (x0, ())) (r) (h : (bif decide (x0.length ≤ 4294967296) then some ((x0, ()), ((), ())) else none) = some r) : ∃ n, bodyE ty T_slices_Clone_etchhouse_api_Layer_etchhouse_api_Layer n I_slices_Clone_etchhouse_api_Layer_etchhouse_api_Layer (x0, ()) = some r := ⟨0, by
  refine (B_slices_Clone_etchhouse_api_Layer_etchhouse_api_Layer_eq 0 x0).trans (Eq.trans ?_ h)
  unfold B_slices_Clone_etchhouse_api_Layer_etchhouse_api_Layer
  cases x0 with
  | nil =>
    simp only [List.isEmpty_nil, cond_true]
    unfold unk
    exact if_pos rfl
  | cons a l => rw [Nat.zero_add]; rfl⟩
noncomputable def E_slices_Clone_etchhouse_api_Layer_etchhouse_api_Layer : Entry Try.prog := Entry.of tok T_slices_Clone_etchhouse_api_Layer_etchhouse_api_Layer I_slices_Clone_etchhouse_api_Layer_etchhouse_api_Layer it_slices_Clone_etchhouse_api_Layer_etchhouse_api_Layer (fun (x0, ()) => bif decide (x0.length ≤ 4294967296) then some ((x0, ()), ((), ())) else none) (fun (x0, ()) r hok h => ok_slices_Clone_etchhouse_api_Layer_etchhouse_api_Layer x0 hok r h)

end Go.Proofs.Ytimaiganehbglaa
namespace Go.Proofs.Ytimaiganehbglaa
open Go Go.VM
/-! ### slices.Reverse[[]etchhouse.api.Layer,etchhouse.api.Layer] -/
noncomputable def I_slices_Reverse_etchhouse_api_Layer_etchhouse_api_Layer_ios : Inst := ⟨48, Try.f48, .two (.reg []) (.one (.loop ⟨[(2, .pv i), (3, .pv i)], [(1000, ⟨(.len .flat), (.sl (.pair .str (.pair .str .unit))), false, true⟩)], [0], []⟩ (.two (.two (.reg []) (.two (.leaf) (.leaf))) (.two (.one (.draw [] [0, 1, 2, 3, 4, 5, 6, 7, 8, 9, 10, 11, 12, 13, 14, 15] [1000])) (.reg []))))), (.cons (.ios (.len .flat) (.sl (.pair .str (.pair .str .unit)))) .nil), .nil⟩
theorem it_slices_Reverse_etchhouse_api_Layer_etchhouse_api_Layer_ios : InTab Try.prog I_slices_Reverse_etchhouse_api_Layer_etchhouse_api_Layer_ios := ⟨Try.func48, by kernel_rfl, rfl⟩
noncomputable def T_slices_Reverse_etchhouse_api_Layer_etchhouse_api_Layer_ios : Nat → Entry Try.prog := nth (Entry.no Try.f0) []
noncomputable def B_slices_Reverse_etchhouse_api_Layer_etchhouse_api_Layer_ios (n : Nat) (x0 : List (ByteArray × (ByteArray × Unit))) : Option ((Unit × (List (ByteArray × (ByteArray × Unit)) × Unit))) :=
  loopN (fun rec1 => fun
  | ((v1aa, (v1aba, ())), (v1ba, ())) =>
    (bif decide ((v1aa < v1aba)) then
      (bif inB v1aba v1ba.length then
        (bif inB v1aa v1ba.length then
          (bif inB v1aa v1ba.length then
            (bif inB v1aba ((v1ba.set v1aa.toNat (v1ba.getD v1aba.toNat ((strOf []), ((strOf []), ())))).length) then
              rec1 ((wrapI .i64 (v1aa + 1), (wrapI .i64 (v1aba - 1), ())), ((v1ba.set v1aa.toNat (v1ba.getD v1aba.toNat ((strOf []), ((strOf []), ())))).set v1aba.toNat (v1ba.getD v1aa.toNat ((strOf []), ((strOf []), ()))), ()))
            else
              none)
          else
            none)
        else
          none)
      else
        none)
    else
      some ((), (v1ba, ()))))
  n ((0, (wrapI .i64 (((x0.length : Nat) : Int) - 1), ())), (x0, ()))
theorem B_slices_Reverse_etchhouse_api_Layer_etchhouse_api_Layer_ios_eq (n : Nat) (x0 : List (ByteArray × (ByteArray × Unit))) : bodyE ty T_slices_Reverse_etchhouse_api_Layer_etchhouse_api_Layer_ios n I_slices_Reverse_etchhouse_api_Layer_etchhouse_api_Layer_ios (x0, ()) = B_slices_Reverse_etchhouse_api_Layer_etchhouse_api_Layer_ios n x0 := by kernel_rfl

end Go.Proofs.Ytimaiganehbglaa
namespace Go.Proofs.Ytimaiganehbglaa
open Go Go.VM
theorem ok_slices_Reverse_etchhouse_api_Layer_etchhouse_api_Layer_ios (x0 : List (ByteArray × (ByteArray × Unit))) (hok : OkA I_slices_Reverse_etchhouse_api_Layer_etchhouse_api_Layer_ios.args (x0, ())) (r) (h : (bif decide (x0.length ≤ 4294967296) then some ((), (S_rev x0, ())) else none) = some r) : ∃ n, bodyE ty T_slices_Reverse_etchhouse_api_Layer_etchhouse_api_Layer_ios n I_slices_Reverse_etchhouse_api_Layer_etchhouse_api_Layer_ios (x0, ()) = some r := ⟨x0.length + 1, by
  cases hd : decide (x0.length ≤ 4294967296) with
  | false => rw [hd] at h; cases h
  | true =>
    have hl : x0.length ≤ maxLen := Nat.le_trans (of_decide_eq_true hd) (by decide)
    rw [B_slices_Reverse_etchhouse_api_Layer_etchhouse_api_Layer_ios_eq, ← h, hd]
    unfold B_slices_Reverse_etchhouse_api_Layer_etchhouse_api_Layer_ios S_rev
    exact rev_loop (R := fun a => some ((), (a, ()))) (d := ((strOf []), ((strOf []), ()))) hl (Nat.lt_succ_self _)⟩
noncomputable def E_slices_Reverse_etchhouse_api_Layer_etchhouse_api_Layer_ios : Entry Try.prog := Entry.of tok T_slices_Reverse_etchhouse_api_Layer_etchhouse_api_Layer_ios I_slices_Reverse_etchhouse_api_Layer_etchhouse_api_Layer_ios it_slices_Reverse_etchhouse_api_Layer_etchhouse_api_Layer_ios (fun (x0, ()) => bif decide (x0.length ≤ 4294967296) then some ((), (S_rev x0, ())) else none) (fun (x0, ()) r hok h => ok_slices_Reverse_etchhouse_api_Layer_etchhouse_api_Layer_ios x0 hok r h)

end Go.Proofs.Ytimaiganehbglaa
namespace Go.Proofs.Ytimaiganehbglaa
open Go Go.VM
/-! ### etchhouse.stack.Mirrored -/
noncomputable def I_stack_Mirrored : Inst := ⟨21, Try.f21, .two (.reg []) (.two (.two (.reg [(2, 0)]) (.two (.reg []) (.two (.two (.reg []) (.leaf)) (.leaf)))) (.two (.reg [(1, 1)]) (.two (.reg [(1, 2)]) (.two (.reg []) (.leaf))))), (.cons (.pv (.sl (.pair .str (.pair i (.pair i (.pair i .unit)))))) (.cons (.pv (.sl (.pair .str (.pair .str .unit)))) .nil)), (.cons (.own .flat) (.sl (.pair .str (.pair .str .unit))) (.cons .flat i .nil))⟩
theorem it_stack_Mirrored : InTab Try.prog I_stack_Mirrored := ⟨Try.func21, by kernel_rfl, rfl⟩
noncomputable def T_stack_Mirrored : Nat → Entry Try.prog := nth (Entry.no Try.f0) [E_stack_CheckStack, E_slices_Clone_etchhouse_api_Layer_etchhouse_api_Layer, E_slices_Reverse_etchhouse_api_Layer_etchhouse_api_Layer_ios]
noncomputable def B_stack_Mirrored (x0 : List (ByteArray × (Int × (Int × (Int × Unit))))) (x1 : List (ByteArray × (ByteArray × Unit))) : Option (((List (ByteArray × (ByteArray × Unit)) × (Int × Unit)) × (Unit × (Unit × Unit)))) :=
  (bif (!(decide ((S_chkS x0 x1 = 0)))) then
    some (([], (S_chkS x0 x1, ())), ((), ((), ())))
  else
    (((bif decide ((x1.length ≤ 4294967296)) then
        some ((x1, ()), ((), ()))
      else
        none)).bind fun ((r1aa, ()), ((), ())) =>
    (((bif decide ((r1aa.length ≤ 4294967296)) then
        some ((), (S_rev r1aa, ()))
      else
        none)).bind fun ((), (r2ba, ())) =>
    some ((r2ba, (0, ())), ((), ((), ()))))))
theorem B_stack_Mirrored_eq (n : Nat) (x0 : List (ByteArray × (Int × (Int × (Int × Unit))))) (x1 : List (ByteArray × (ByteArray × Unit))) : bodyE ty T_stack_Mirrored n I_stack_Mirrored (x0, (x1, ())) = B_stack_Mirrored x0 x1 := by kernel_rfl

end Go.Proofs.Ytimaiganehbglaa
namespace Go.Proofs.Ytimaiganehbglaa
open Go Go.VM
def S_mir_stack_Mirrored (x0 : List Mat) (x1 : List Lay) : List Lay := bif decide (S_chkS x0 x1 = 0) then x1.reverse else []
theorem ok_stack_Mirrored (x0 : List Mat) (x1 : List Lay) (hok : OkA I_stack_Mirrored.args (x0, x1, ())) : ∃ n, bodyE ty T_stack_Mirrored n I_stack_Mirrored (x0, x1, ()) = some ((S_mir_stack_Mirrored x0 x1, S_chkS x0 x1, ()), ((), (), ())) := ⟨0, by
  rw [B_stack_Mirrored_eq]
  unfold B_stack_Mirrored S_mir_stack_Mirrored
  cases hs : decide (S_chkS x0 x1 = 0) with
  | false => rfl
  | true =>
    have hs := of_decide_eq_true hs
    have hL := chkS_max hs
    rw [hs]
    have : decide (x1.length ≤ 4294967296) = true := decide_eq_true (by omega)
    simp only [this, Bool.not_true, cond_false, cond_true, Option.bind_some]
    rfl⟩
noncomputable def E_stack_Mirrored : Entry Try.prog := Entry.of tok T_stack_Mirrored I_stack_Mirrored it_stack_Mirrored (fun (x0, x1, ()) => some ((S_mir_stack_Mirrored x0 x1, S_chkS x0 x1, ()), ((), (), ()))) (fun (x0, x1, ()) r hok h => by cases h; exact ok_stack_Mirrored x0 x1 hok)

end Go.Proofs.Ytimaiganehbglaa
namespace Go.Proofs.Ytimaiganehbglaa
open Go Go.VM
/-! ### etchhouse.etchhouseref4.within -/
noncomputable def I_etchhouseref4_within : Inst := ⟨38, Try.f38, .two (.reg []) (.two (.reg []) (.leaf)), (.cons (.pv i) (.cons (.pv i) (.cons (.pv i) .nil))), (.cons .flat .bool .nil)⟩
theorem it_etchhouseref4_within : InTab Try.prog I_etchhouseref4_within := ⟨Try.func38, by kernel_rfl, rfl⟩
noncomputable def T_etchhouseref4_within : Nat → Entry Try.prog := nth (Entry.no Try.f0) []
noncomputable def B_etchhouseref4_within (x0 : Int) (x1 : Int) (x2 : Int) : Option (((Bool × Unit) × (Unit × (Unit × (Unit × Unit))))) :=
  (bif decide ((x1 ≤ x0)) then
    some ((decide ((x0 ≤ x2)), ()), ((), ((), ((), ()))))
  else
    some ((false, ()), ((), ((), ((), ())))))
theorem B_etchhouseref4_within_eq (n : Nat) (x0 : Int) (x1 : Int) (x2 : Int) : bodyE ty T_etchhouseref4_within n I_etchhouseref4_within (x0, (x1, (x2, ()))) = B_etchhouseref4_within x0 x1 x2 := by kernel_rfl

end Go.Proofs.Ytimaiganehbglaa
namespace Go.Proofs.Ytimaiganehbglaa
open Go Go.VM
theorem ok_etchhouseref4_within (x0 x1 x2 : Int) (hok : OkA I_etchhouseref4_within.args (x0, x1, x2, ())) : ∃ n, bodyE ty T_etchhouseref4_within n I_etchhouseref4_within (x0, x1, x2, ()) = some ((S_within x0 x1 x2, ()), ((), (), (), ())) := ⟨0, by
  rw [B_etchhouseref4_within_eq]; unfold B_etchhouseref4_within S_within; cases decide (x1 ≤ x0) <;> rfl⟩
noncomputable def E_etchhouseref4_within : Entry Try.prog := Entry.of tok T_etchhouseref4_within I_etchhouseref4_within it_etchhouseref4_within (fun (x0, x1, x2, ()) => some ((S_within x0 x1 x2, ()), ((), (), (), ()))) (fun (x0, x1, x2, ()) r hok h => by cases h; exact ok_etchhouseref4_within x0 x1 x2 hok)

end Go.Proofs.Ytimaiganehbglaa
namespace Go.Proofs.Ytimaiganehbglaa
open Go Go.VM
/-! ### etchhouse.etchhouseref4.isWord -/
noncomputable def I_etchhouseref4_isWord : Inst := ⟨37, Try.f37, .two (.reg []) (.two (.two (.reg []) (.one (.loop ⟨[(7, .pv i)], [], [0, 6], []⟩ (.two (.reg []) (.two (.two (.leaf) (.leaf)) (.two (.one (.two (.reg []) (.two (.reg []) (.two (.reg [(24, 0)]) (.two (.two (.reg []) (.leaf)) (.leaf)))))) (.reg []))))))) (.two (.reg [(2, 1)]) (.leaf))), (.cons (.pv .str) .nil), (.cons .flat .bool .nil)⟩
theorem it_etchhouseref4_isWord : InTab Try.prog I_etchhouseref4_isWord := ⟨Try.func37, by kernel_rfl, rfl⟩
noncomputable def T_etchhouseref4_isWord : Nat → Entry Try.prog := nth (Entry.no Try.f0) [E_strings_IndexByte, E_etchhouseref4_within]
noncomputable def B_etchhouseref4_isWord (n : Nat) (x0 : ByteArray) : Option (((Bool × Unit) × (Unit × Unit))) :=
  loopN (fun rec1 => fun
  | ((v1aa, ()), ()) =>
    (bif decide ((v1aa < ((ByteArray.size x0 : Nat) : Int))) then
      (bif inB v1aa (ByteArray.size x0) then
        (bif decide ((strAt x0 v1aa.toNat < 97)) then
          (bif decide ((strAt x0 v1aa.toNat < 65)) then
            (bif decide ((strAt x0 v1aa.toNat < 48)) then
              (bif decide ((S_strings_IndexByte (strOf [95, 43, 45, 35]) (strAt x0 v1aa.toNat) < 0)) then
                some ((false, ()), ((), ()))
              else
                rec1 ((wrapI .i64 (v1aa + 1), ()), ()))
            else
              (bif decide ((57 < strAt x0 v1aa.toNat)) then
                (bif decide ((S_strings_IndexByte (strOf [95, 43, 45, 35]) (strAt x0 v1aa.toNat) < 0)) then
                  some ((false, ()), ((), ()))
                else
                  rec1 ((wrapI .i64 (v1aa + 1), ()), ()))
              else
                rec1 ((wrapI .i64 (v1aa + 1), ()), ())))
          else
            (bif decide ((90 < strAt x0 v1aa.toNat)) then
              (bif decide ((strAt x0 v1aa.toNat < 48)) then
                (bif decide ((S_strings_IndexByte (strOf [95, 43, 45, 35]) (strAt x0 v1aa.toNat) < 0)) then
                  some ((false, ()), ((), ()))
                else
                  rec1 ((wrapI .i64 (v1aa + 1), ()), ()))
              else
                (bif decide ((57 < strAt x0 v1aa.toNat)) then
                  (bif decide ((S_strings_IndexByte (strOf [95, 43, 45, 35]) (strAt x0 v1aa.toNat) < 0)) then
                    some ((false, ()), ((), ()))
                  else
                    rec1 ((wrapI .i64 (v1aa + 1), ()), ()))
                else
                  rec1 ((wrapI .i64 (v1aa + 1), ()), ())))
            else
              rec1 ((wrapI .i64 (v1aa + 1), ()), ())))
        else
          (bif decide ((122 < strAt x0 v1aa.toNat)) then
            (bif decide ((strAt x0 v1aa.toNat < 65)) then
              (bif decide ((strAt x0 v1aa.toNat < 48)) then
                (bif decide ((S_strings_IndexByte (strOf [95, 43, 45, 35]) (strAt x0 v1aa.toNat) < 0)) then
                  some ((false, ()), ((), ()))
                else
                  rec1 ((wrapI .i64 (v1aa + 1), ()), ()))
              else
                (bif decide ((57 < strAt x0 v1aa.toNat)) then
                  (bif decide ((S_strings_IndexByte (strOf [95, 43, 45, 35]) (strAt x0 v1aa.toNat) < 0)) then
                    some ((false, ()), ((), ()))
                  else
                    rec1 ((wrapI .i64 (v1aa + 1), ()), ()))
                else
                  rec1 ((wrapI .i64 (v1aa + 1), ()), ())))
            else
              (bif decide ((90 < strAt x0 v1aa.toNat)) then
                (bif decide ((strAt x0 v1aa.toNat < 48)) then
                  (bif decide ((S_strings_IndexByte (strOf [95, 43, 45, 35]) (strAt x0 v1aa.toNat) < 0)) then
                    some ((false, ()), ((), ()))
                  else
                    rec1 ((wrapI .i64 (v1aa + 1), ()), ()))
                else
                  (bif decide ((57 < strAt x0 v1aa.toNat)) then
                    (bif decide ((S_strings_IndexByte (strOf [95, 43, 45, 35]) (strAt x0 v1aa.toNat) < 0)) then
                      some ((false, ()), ((), ()))
                    else
                      rec1 ((wrapI .i64 (v1aa + 1), ()), ()))
                  else
                    rec1 ((wrapI .i64 (v1aa + 1), ()), ())))
              else
                rec1 ((wrapI .i64 (v1aa + 1), ()), ())))
          else
            rec1 ((wrapI .i64 (v1aa + 1), ()), ())))
      else
        none)
    else
      some ((S_within ((ByteArray.size x0 : Nat) : Int) 1 40, ()), ((), ()))))
  n ((0, ()), ())
theorem B_etchhouseref4_isWord_eq (n : Nat) (x0 : ByteArray) : bodyE ty T_etchhouseref4_isWord n I_etchhouseref4_isWord (x0, ()) = B_etchhouseref4_isWord n x0 := by kernel_rfl

end Go.Proofs.Ytimaiganehbglaa
namespace Go.Proofs.Ytimaiganehbglaa
open Go Go.VM
theorem ok_etchhouseref4_isWord (x0 : ByteArray) (hok : OkA I_etchhouseref4_isWord.args (x0, ())) : ∃ n, bodyE ty T_etchhouseref4_isWord n I_etchhouseref4_isWord (x0, ()) = some ((S_word x0, ()), ((), ())) := ⟨ByteArray.size x0 + 1, by
  have hl : ByteArray.size x0 ≤ maxLen := hok.1
  rw [B_etchhouseref4_isWord_eq]
  unfold B_etchhouseref4_isWord S_word
  refine (loop_list (l := x0.data.toList) (fun i (_ : Unit) => ((i, ()), ())) (fun a i _ => bif okB (a.toNat : Int) then .inl () else .inr (some ((false, ()), ((), ())))) (fun _ => some ((decide (1 ≤ ((ByteArray.size x0 : Nat) : Int)) && decide (((ByteArray.size x0 : Nat) : Int) ≤ 40), ()), ((), ()))) (fun i h s rec => ?_) (fun s rec => ?_) (Nat.lt_succ_self _) ()).trans ?_
  · have h' : i < ByteArray.size x0 := h
    simp only [lt_nat h', inB_nat h', strAt_nat h, succ64 h' hl, cond_true]
    generalize (x0.data.toList[i].toNat : Int) = c
    unfold okB
    simp only [show ∀ a b, S_strings_IndexByte a b = S_idx a b from fun _ _ => rfl]
    cases decide (c < 65) <;> cases decide (90 < c) <;> cases decide (c < 97) <;> cases decide (122 < c) <;> cases decide (c < 48) <;> cases decide (57 < c) <;> cases decide (S_idx (strOf [95, 43, 45, 35]) c < 0) <;> rfl
  · rw [← size_list]
    simp only [lt_self, cond_false]
    rfl
  · rw [all_go]
    cases x0.data.toList.all fun b => okB (b.toNat : Int) <;> rfl⟩
noncomputable def E_etchhouseref4_isWord : Entry Try.prog := Entry.of tok T_etchhouseref4_isWord I_etchhouseref4_isWord it_etchhouseref4_isWord (fun (x0, ()) => some ((S_word x0, ()), ((), ()))) (fun (x0, ()) r hok h => by cases h; exact ok_etchhouseref4_isWord x0 hok)

end Go.Proofs.Ytimaiganehbglaa
namespace Go.Proofs.Ytimaiganehbglaa
open Go Go.VM
/-! ### etchhouse.etchhouseref4.CheckMaterials -/
noncomputable def I_etchhouseref4_CheckMaterials : Inst := ⟨12, Try.f12, .two (.reg []) (.two (.two (.reg []) (.two (.two (.reg []) (.leaf)) (.leaf))) (.two (.two (.reg []) (.one (.loop ⟨[(10, .pv i)], [], [0, 8, 9], []⟩ (.two (.reg []) (.two (.two (.leaf) (.leaf)) (.two (.one (.two (.reg []) (.one (.two (.reg [(2, 0)]) (.two (.two (.reg []) (.leaf)) (.two (.reg [(2, 1)]) (.two (.two (.reg []) (.leaf)) (.two (.reg [(2, 1), (7, 1)]) (.two (.two (.reg []) (.leaf)) (.two (.draw [] [0, 1, 2, 3, 4, 5, 6, 7, 8, 9, 10, 11, 12, 13] [4]) (.two (.two (.reg []) (.leaf)) (.leaf)))))))))))) (.reg []))))))) (.two (.reg []) (.leaf)))), (.cons (.pv (.sl (.pair .str (.pair i (.pair i (.pair i .unit)))))) .nil), (.cons .flat i .nil)⟩
theorem it_etchhouseref4_CheckMaterials : InTab Try.prog I_etchhouseref4_CheckMaterials := ⟨Try.func12, by kernel_rfl, rfl⟩
noncomputable def T_etchhouseref4_CheckMaterials : Nat → Entry Try.prog := nth (Entry.no Try.f0) [E_etchhouseref4_isWord, E_etchhouseref4_within]
noncomputable def B_etchhouseref4_CheckMaterials (n : Nat) (x0 : List (ByteArray × (Int × (Int × (Int × Unit))))) : Option (((Int × Unit) × (Unit × Unit))) :=
  (bif decide ((50 < ((x0.length : Nat) : Int))) then
    some ((2, ()), ((), ()))
  else
    loopN (fun rec1 => fun
    | ((v1aa, ()), ()) =>
      (bif decide ((v1aa < ((x0.length : Nat) : Int))) then
        (bif inB v1aa x0.length then
          (bif (!(S_word ((x0.getD v1aa.toNat ((strOf []), (0, (0, (0, ()))))).1))) then
            some ((5, ()), ((), ()))
          else
            (bif (!(S_within (((x0.getD v1aa.toNat ((strOf []), (0, (0, (0, ()))))).2).1) 1 3)) then
              some ((4, ()), ((), ()))
            else
              (bif (!(S_within ((((x0.getD v1aa.toNat ((strOf []), (0, (0, (0, ()))))).2).2).1) 1 2000)) then
                some ((1, ()), ((), ()))
              else
                (bif (!(S_within (((((x0.getD v1aa.toNat ((strOf []), (0, (0, (0, ()))))).2).2).2).1) 0 1000)) then
                  some ((1, ()), ((), ()))
                else
                  (bif decide ((0 < v1aa)) then
                    (bif inB (wrapI .i64 (v1aa - 1)) x0.length then
                      (bif (Op.bytesLess (ByteArray.toList ((x0.getD v1aa.toNat ((strOf []), (0, (0, (0, ()))))).1)) (ByteArray.toList ((x0.getD ((wrapI .i64 (v1aa - 1)).toNat) ((strOf []), (0, (0, (0, ()))))).1)) || decide ((ByteArray.toList ((x0.getD v1aa.toNat ((strOf []), (0, (0, (0, ()))))).1) = ByteArray.toList ((x0.getD ((wrapI .i64 (v1aa - 1)).toNat) ((strOf []), (0, (0, (0, ()))))).1)))) then
                        some ((8, ()), ((), ()))
                      else
                        rec1 ((wrapI .i64 (v1aa + 1), ()), ()))
                    else
                      none)
                  else
                    rec1 ((wrapI .i64 (v1aa + 1), ()), ()))))))
        else
          none)
      else
        some ((0, ()), ((), ()))))
    n ((0, ()), ()))
theorem B_etchhouseref4_CheckMaterials_eq (n : Nat) (x0 : List (ByteArray × (Int × (Int × (Int × Unit))))) : bodyE ty T_etchhouseref4_CheckMaterials n I_etchhouseref4_CheckMaterials (x0, ()) = B_etchhouseref4_CheckMaterials n x0 := by kernel_rfl

end Go.Proofs.Ytimaiganehbglaa
namespace Go.Proofs.Ytimaiganehbglaa
open Go Go.VM
theorem ok_etchhouseref4_CheckMaterials (x0 : List Mat) (hok : OkA I_etchhouseref4_CheckMaterials.args (x0, ())) : ∃ n, bodyE ty T_etchhouseref4_CheckMaterials n I_etchhouseref4_CheckMaterials (x0, ()) = some ((S_chkM x0, ()), ((), ())) := ⟨x0.length + 1, by
  have hl : x0.length ≤ maxLen := hok.1.1
  rw [B_etchhouseref4_CheckMaterials_eq]
  unfold B_etchhouseref4_CheckMaterials
  exact chkM_loop (R := fun a => some ((a, ()), ((), ()))) hl (Nat.lt_succ_self _)⟩
noncomputable def E_etchhouseref4_CheckMaterials : Entry Try.prog := Entry.of tok T_etchhouseref4_CheckMaterials I_etchhouseref4_CheckMaterials it_etchhouseref4_CheckMaterials (fun (x0, ()) => some ((S_chkM x0, ()), ((), ()))) (fun (x0, ()) r hok h => by cases h; exact ok_etchhouseref4_CheckMaterials x0 hok)

end Go.Proofs.Ytimaiganehbglaa
namespace Go.Proofs.Ytimaiganehbglaa
open Go Go.VM
/-! ### etchhouse.etchhouseref4.materialOf -/
noncomputable def I_etchhouseref4_materialOf : Inst := ⟨49, Try.f49, .two (.reg []) (.two (.two (.reg []) (.one (.loop ⟨[(9, .pv i)], [], [1, 4, 7, 8], [4]⟩ (.two (.reg []) (.two (.two (.leaf) (.leaf)) (.two (.one (.two (.reg []) (.two (.reg []) (.two (.two (.reg []) (.leaf)) (.leaf))))) (.reg []))))))) (.two (.reg []) (.leaf))), (.cons (.pv (.sl (.pair .str (.pair i (.pair i (.pair i .unit)))))) (.cons (.pv .str) .nil)), (.cons .flat (.pair .str (.pair i (.pair i (.pair i .unit)))) .nil)⟩
theorem it_etchhouseref4_materialOf : InTab Try.prog I_etchhouseref4_materialOf := ⟨Try.func49, by kernel_rfl, rfl⟩
noncomputable def T_etchhouseref4_materialOf : Nat → Entry Try.prog := nth (Entry.no Try.f0) []
noncomputable def B_etchhouseref4_materialOf (n : Nat) (x0 : List (ByteArray × (Int × (Int × (Int × Unit))))) (x1 : ByteArray) : Option ((((ByteArray × (Int × (Int × (Int × Unit)))) × Unit) × (Unit × (Unit × Unit)))) :=
  loopN (fun rec1 => fun
  | ((v1aa, ()), ()) =>
    (bif decide ((v1aa < ((x0.length : Nat) : Int))) then
      (bif inB v1aa x0.length then
        (bif decide ((ByteArray.toList ((x0.getD v1aa.toNat ((strOf []), (0, (0, (0, ()))))).1) = ByteArray.toList x1)) then
          some ((x0.getD v1aa.toNat ((strOf []), (0, (0, (0, ())))), ()), ((), ((), ())))
        else
          rec1 ((wrapI .i64 (v1aa + 1), ()), ()))
      else
        none)
    else
      some ((((strOf []), (0, (0, (0, ())))), ()), ((), ((), ())))))
  n ((0, ()), ())
theorem B_etchhouseref4_materialOf_eq (n : Nat) (x0 : List (ByteArray × (Int × (Int × (Int × Unit))))) (x1 : ByteArray) : bodyE ty T_etchhouseref4_materialOf n I_etchhouseref4_materialOf (x0, (x1, ())) = B_etchhouseref4_materialOf n x0 x1 := by kernel_rfl

end Go.Proofs.Ytimaiganehbglaa
namespace Go.Proofs.Ytimaiganehbglaa
open Go Go.VM
theorem findD_go {α A : Type} {p : α → Bool} {R : α → Option A} {d : α} : ∀ (l : List α) (i : Nat), goL (fun a i (_ : Unit) => bif p a then .inr (R a) else .inl ()) (fun _ => R d) l i () = R ((l.find? p).getD d)
  | [], _ => rfl
  | a :: r, i => by
    simp only [goL, List.find?_cons]
    cases p a with
    | true => rfl
    | false => exact findD_go r (i + 1)
theorem ok_etchhouseref4_materialOf (x0 : List Mat) (x1 : ByteArray) (hok : OkA I_etchhouseref4_materialOf.args (x0, x1, ())) : ∃ n, bodyE ty T_etchhouseref4_materialOf n I_etchhouseref4_materialOf (x0, x1, ()) = some ((S_matR x0 x1, ()), ((), (), ())) := ⟨x0.length + 1, by
  have hl : x0.length ≤ maxLen := hok.1.1
  rw [B_etchhouseref4_materialOf_eq]
  unfold B_etchhouseref4_materialOf S_matR
  refine (loop_list (l := x0) (fun i (_ : Unit) => ((i, ()), ())) (fun a i _ => bif decide (a.1.toList = x1.toList) then .inr (some ((a, ()), ((), (), ()))) else .inl ()) (fun _ => some ((mat0, ()), ((), (), ()))) (fun i h s rec => ?_) (fun s rec => ?_) (Nat.lt_succ_self _) ()).trans ?_
  · simp only [lt_nat h, inB_nat h, getD_lt h, succ64 h hl, cond_true]
    cases decide (ByteArray.toList x0[i].1 = ByteArray.toList x1) <;> rfl
  · simp only [lt_self, cond_false]; rfl
  · exact findD_go (p := fun a : Mat => decide (a.1.toList = x1.toList)) (R := fun a => some ((a, ()), ((), (), ()))) x0 0⟩
noncomputable def E_etchhouseref4_materialOf : Entry Try.prog := Entry.of tok T_etchhouseref4_materialOf I_etchhouseref4_materialOf it_etchhouseref4_materialOf (fun (x0, x1, ()) => some ((S_matR x0 x1, ()), ((), (), ()))) (fun (x0, x1, ()) r hok h => by cases h; exact ok_etchhouseref4_materialOf x0 x1 hok)

end Go.Proofs.Ytimaiganehbglaa
namespace Go.Proofs.Ytimaiganehbglaa
open Go Go.VM
/-! ### etchhouse.etchhouseref4.checkLayer -/
noncomputable def I_etchhouseref4_checkLayer : Inst := ⟨42, Try.f42, .two (.reg []) (.two (.reg [(6, 0)]) (.two (.two (.reg []) (.two (.two (.reg []) (.leaf)) (.leaf))) (.two (.two (.reg [(8, 1)]) (.two (.two (.reg []) (.leaf)) (.leaf))) (.two (.two (.reg []) (.two (.two (.reg []) (.one (.loop ⟨[(50, .pv i)], [], [0, 1, 2, 7, 48, 49], []⟩ (.two (.reg []) (.two (.two (.leaf) (.leaf)) (.two (.one (.two (.reg []) (.two (.draw [] [0, 1, 2, 3, 4, 5, 6, 7] [9]) (.two (.two (.reg []) (.leaf)) (.leaf))))) (.reg []))))))) (.leaf))) (.two (.two (.reg []) (.two (.two (.reg []) (.leaf)) (.leaf))) (.two (.reg [(7, 0)]) (.two (.two (.reg []) (.two (.two (.reg []) (.leaf)) (.leaf))) (.two (.two (.reg []) (.two (.two (.reg []) (.leaf)) (.leaf))) (.two (.reg []) (.leaf)))))))))), (.cons (.pv (.sl (.pair .str (.pair i (.pair i (.pair i .unit)))))) (.cons (.pv (.sl (.pair .str (.pair .str .unit)))) (.cons (.pv i) .nil))), (.cons .flat i .nil)⟩
theorem it_etchhouseref4_checkLayer : InTab Try.prog I_etchhouseref4_checkLayer := ⟨Try.func42, by kernel_rfl, rfl⟩
noncomputable def T_etchhouseref4_checkLayer : Nat → Entry Try.prog := nth (Entry.no Try.f0) [E_etchhouseref4_materialOf, E_etchhouseref4_isWord]
noncomputable def B_etchhouseref4_checkLayer (n : Nat) (x0 : List (ByteArray × (Int × (Int × (Int × Unit))))) (x1 : List (ByteArray × (ByteArray × Unit))) (x2 : Int) : Option (((Int × Unit) × (Unit × (Unit × (Unit × Unit))))) :=
  (bif inB x2 x1.length then
    (bif decide ((((S_matR x0 (((x1.getD x2.toNat ((strOf []), ((strOf []), ()))).2).1)).2).1 = 0)) then
      some ((9, ()), ((), ((), ((), ()))))
    else
      (bif decide ((((S_matR x0 (((x1.getD x2.toNat ((strOf []), ((strOf []), ()))).2).1)).2).1 = 1)) then
        (bif inB x2 x1.length then
          (bif (!(S_word ((x1.getD x2.toNat ((strOf []), ((strOf []), ()))).1))) then
            some ((5, ()), ((), ((), ((), ()))))
          else
            (bif (!(decide ((((S_matR x0 (((x1.getD x2.toNat ((strOf []), ((strOf []), ()))).2).1)).2).1 = 1)))) then
              (bif inB x2 x1.length then
                (bif (!(decide ((ByteArray.toList ((x1.getD x2.toNat ((strOf []), ((strOf []), ()))).1) = ByteArray.toList (strOf []))))) then
                  some ((5, ()), ((), ((), ((), ()))))
                else
                  (bif decide ((((S_matR x0 (((x1.getD x2.toNat ((strOf []), ((strOf []), ()))).2).1)).2).1 = 1)) then
                    (bif (decide ((0 ≤ x2)) && decide ((x2 ≤ ((x1.length : Nat) : Int)))) then
                      loopN (fun rec1 => fun
                      | ((v1aa, ()), ()) =>
                        (bif decide ((v1aa < ((((x1.drop 0).take (x2.toNat - 0)).length : Nat) : Int))) then
                          (bif inB v1aa (((x1.drop 0).take (x2.toNat - 0)).length) then
                            (bif inB x2 x1.length then
                              (bif decide ((ByteArray.toList ((((x1.drop 0).take (x2.toNat - 0)).getD v1aa.toNat ((strOf []), ((strOf []), ()))).1) = ByteArray.toList ((x1.getD x2.toNat ((strOf []), ((strOf []), ()))).1))) then
                                some ((7, ()), ((), ((), ((), ()))))
                              else
                                rec1 ((wrapI .i64 (v1aa + 1), ()), ()))
                            else
                              none)
                          else
                            none)
                        else
                          (bif decide ((x2 = 0)) then
                            some ((0, ()), ((), ((), ((), ()))))
                          else
                            (bif inB (wrapI .i64 (x2 - 1)) x1.length then
                              (bif decide ((((S_matR x0 (((x1.getD x2.toNat ((strOf []), ((strOf []), ()))).2).1)).2).1 = 1)) then
                                (bif decide ((((S_matR x0 (((x1.getD ((wrapI .i64 (x2 - 1)).toNat) ((strOf []), ((strOf []), ()))).2).1)).2).1 = 1)) then
                                  some ((8, ()), ((), ((), ((), ()))))
                                else
                                  (bif decide ((((S_matR x0 (((x1.getD x2.toNat ((strOf []), ((strOf []), ()))).2).1)).2).1 = 2)) then
                                    (bif (!(decide ((((S_matR x0 (((x1.getD ((wrapI .i64 (x2 - 1)).toNat) ((strOf []), ((strOf []), ()))).2).1)).2).1 = 1)))) then
                                      some ((8, ()), ((), ((), ((), ()))))
                                    else
                                      (bif decide ((((S_matR x0 (((x1.getD ((wrapI .i64 (x2 - 1)).toNat) ((strOf []), ((strOf []), ()))).2).1)).2).1 = 2)) then
                                        (bif (!(decide ((((S_matR x0 (((x1.getD x2.toNat ((strOf []), ((strOf []), ()))).2).1)).2).1 = 1)))) then
                                          some ((8, ()), ((), ((), ((), ()))))
                                        else
                                          some ((0, ()), ((), ((), ((), ())))))
                                      else
                                        some ((0, ()), ((), ((), ((), ()))))))
                                  else
                                    (bif decide ((((S_matR x0 (((x1.getD ((wrapI .i64 (x2 - 1)).toNat) ((strOf []), ((strOf []), ()))).2).1)).2).1 = 2)) then
                                      (bif (!(decide ((((S_matR x0 (((x1.getD x2.toNat ((strOf []), ((strOf []), ()))).2).1)).2).1 = 1)))) then
                                        some ((8, ()), ((), ((), ((), ()))))
                                      else
                                        some ((0, ()), ((), ((), ((), ())))))
                                    else
                                      some ((0, ()), ((), ((), ((), ())))))))
                              else
                                (bif decide ((((S_matR x0 (((x1.getD x2.toNat ((strOf []), ((strOf []), ()))).2).1)).2).1 = 2)) then
                                  (bif (!(decide ((((S_matR x0 (((x1.getD ((wrapI .i64 (x2 - 1)).toNat) ((strOf []), ((strOf []), ()))).2).1)).2).1 = 1)))) then
                                    some ((8, ()), ((), ((), ((), ()))))
                                  else
                                    (bif decide ((((S_matR x0 (((x1.getD ((wrapI .i64 (x2 - 1)).toNat) ((strOf []), ((strOf []), ()))).2).1)).2).1 = 2)) then
                                      (bif (!(decide ((((S_matR x0 (((x1.getD x2.toNat ((strOf []), ((strOf []), ()))).2).1)).2).1 = 1)))) then
                                        some ((8, ()), ((), ((), ((), ()))))
                                      else
                                        some ((0, ()), ((), ((), ((), ())))))
                                    else
                                      some ((0, ()), ((), ((), ((), ()))))))
                                else
                                  (bif decide ((((S_matR x0 (((x1.getD ((wrapI .i64 (x2 - 1)).toNat) ((strOf []), ((strOf []), ()))).2).1)).2).1 = 2)) then
                                    (bif (!(decide ((((S_matR x0 (((x1.getD x2.toNat ((strOf []), ((strOf []), ()))).2).1)).2).1 = 1)))) then
                                      some ((8, ()), ((), ((), ((), ()))))
                                    else
                                      some ((0, ()), ((), ((), ((), ())))))
                                  else
                                    some ((0, ()), ((), ((), ((), ())))))))
                            else
                              none))))
                      n ((0, ()), ())
                    else
                      none)
                  else
                    (bif decide ((x2 = 0)) then
                      some ((0, ()), ((), ((), ((), ()))))
                    else
                      (bif inB (wrapI .i64 (x2 - 1)) x1.length then
                        (bif decide ((((S_matR x0 (((x1.getD x2.toNat ((strOf []), ((strOf []), ()))).2).1)).2).1 = 1)) then
                          (bif decide ((((S_matR x0 (((x1.getD ((wrapI .i64 (x2 - 1)).toNat) ((strOf []), ((strOf []), ()))).2).1)).2).1 = 1)) then
                            some ((8, ()), ((), ((), ((), ()))))
                          else
                            (bif decide ((((S_matR x0 (((x1.getD x2.toNat ((strOf []), ((strOf []), ()))).2).1)).2).1 = 2)) then
                              (bif (!(decide ((((S_matR x0 (((x1.getD ((wrapI .i64 (x2 - 1)).toNat) ((strOf []), ((strOf []), ()))).2).1)).2).1 = 1)))) then
                                some ((8, ()), ((), ((), ((), ()))))
                              else
                                (bif decide ((((S_matR x0 (((x1.getD ((wrapI .i64 (x2 - 1)).toNat) ((strOf []), ((strOf []), ()))).2).1)).2).1 = 2)) then
                                  (bif (!(decide ((((S_matR x0 (((x1.getD x2.toNat ((strOf []), ((strOf []), ()))).2).1)).2).1 = 1)))) then
                                    some ((8, ()), ((), ((), ((), ()))))
                                  else
                                    some ((0, ()), ((), ((), ((), ())))))
                                else
                                  some ((0, ()), ((), ((), ((), ()))))))
                            else
                              (bif decide ((((S_matR x0 (((x1.getD ((wrapI .i64 (x2 - 1)).toNat) ((strOf []), ((strOf []), ()))).2).1)).2).1 = 2)) then
                                (bif (!(decide ((((S_matR x0 (((x1.getD x2.toNat ((strOf []), ((strOf []), ()))).2).1)).2).1 = 1)))) then
                                  some ((8, ()), ((), ((), ((), ()))))
                                else
                                  some ((0, ()), ((), ((), ((), ())))))
                              else
                                some ((0, ()), ((), ((), ((), ())))))))
                        else
                          (bif decide ((((S_matR x0 (((x1.getD x2.toNat ((strOf []), ((strOf []), ()))).2).1)).2).1 = 2)) then
                            (bif (!(decide ((((S_matR x0 (((x1.getD ((wrapI .i64 (x2 - 1)).toNat) ((strOf []), ((strOf []), ()))).2).1)).2).1 = 1)))) then
                              some ((8, ()), ((), ((), ((), ()))))
                            else
                              (bif decide ((((S_matR x0 (((x1.getD ((wrapI .i64 (x2 - 1)).toNat) ((strOf []), ((strOf []), ()))).2).1)).2).1 = 2)) then
                                (bif (!(decide ((((S_matR x0 (((x1.getD x2.toNat ((strOf []), ((strOf []), ()))).2).1)).2).1 = 1)))) then
                                  some ((8, ()), ((), ((), ((), ()))))
                                else
                                  some ((0, ()), ((), ((), ((), ())))))
                              else
                                some ((0, ()), ((), ((), ((), ()))))))
                          else
                            (bif decide ((((S_matR x0 (((x1.getD ((wrapI .i64 (x2 - 1)).toNat) ((strOf []), ((strOf []), ()))).2).1)).2).1 = 2)) then
                              (bif (!(decide ((((S_matR x0 (((x1.getD x2.toNat ((strOf []), ((strOf []), ()))).2).1)).2).1 = 1)))) then
                                some ((8, ()), ((), ((), ((), ()))))
                              else
                                some ((0, ()), ((), ((), ((), ())))))
                            else
                              some ((0, ()), ((), ((), ((), ())))))))
                      else
                        none))))
              else
                none)
            else
              (bif decide ((((S_matR x0 (((x1.getD x2.toNat ((strOf []), ((strOf []), ()))).2).1)).2).1 = 1)) then
                (bif (decide ((0 ≤ x2)) && decide ((x2 ≤ ((x1.length : Nat) : Int)))) then
                  loopN (fun rec2 => fun
                  | ((v2aa, ()), ()) =>
                    (bif decide ((v2aa < ((((x1.drop 0).take (x2.toNat - 0)).length : Nat) : Int))) then
                      (bif inB v2aa (((x1.drop 0).take (x2.toNat - 0)).length) then
                        (bif inB x2 x1.length then
                          (bif decide ((ByteArray.toList ((((x1.drop 0).take (x2.toNat - 0)).getD v2aa.toNat ((strOf []), ((strOf []), ()))).1) = ByteArray.toList ((x1.getD x2.toNat ((strOf []), ((strOf []), ()))).1))) then
                            some ((7, ()), ((), ((), ((), ()))))
                          else
                            rec2 ((wrapI .i64 (v2aa + 1), ()), ()))
                        else
                          none)
                      else
                        none)
                    else
                      (bif decide ((x2 = 0)) then
                        some ((0, ()), ((), ((), ((), ()))))
                      else
                        (bif inB (wrapI .i64 (x2 - 1)) x1.length then
                          (bif decide ((((S_matR x0 (((x1.getD x2.toNat ((strOf []), ((strOf []), ()))).2).1)).2).1 = 1)) then
                            (bif decide ((((S_matR x0 (((x1.getD ((wrapI .i64 (x2 - 1)).toNat) ((strOf []), ((strOf []), ()))).2).1)).2).1 = 1)) then
                              some ((8, ()), ((), ((), ((), ()))))
                            else
                              (bif decide ((((S_matR x0 (((x1.getD x2.toNat ((strOf []), ((strOf []), ()))).2).1)).2).1 = 2)) then
                                (bif (!(decide ((((S_matR x0 (((x1.getD ((wrapI .i64 (x2 - 1)).toNat) ((strOf []), ((strOf []), ()))).2).1)).2).1 = 1)))) then
                                  some ((8, ()), ((), ((), ((), ()))))
                                else
                                  (bif decide ((((S_matR x0 (((x1.getD ((wrapI .i64 (x2 - 1)).toNat) ((strOf []), ((strOf []), ()))).2).1)).2).1 = 2)) then
                                    (bif (!(decide ((((S_matR x0 (((x1.getD x2.toNat ((strOf []), ((strOf []), ()))).2).1)).2).1 = 1)))) then
                                      some ((8, ()), ((), ((), ((), ()))))
                                    else
                                      some ((0, ()), ((), ((), ((), ())))))
                                  else
                                    some ((0, ()), ((), ((), ((), ()))))))
                              else
                                (bif decide ((((S_matR x0 (((x1.getD ((wrapI .i64 (x2 - 1)).toNat) ((strOf []), ((strOf []), ()))).2).1)).2).1 = 2)) then
                                  (bif (!(decide ((((S_matR x0 (((x1.getD x2.toNat ((strOf []), ((strOf []), ()))).2).1)).2).1 = 1)))) then
                                    some ((8, ()), ((), ((), ((), ()))))
                                  else
                                    some ((0, ()), ((), ((), ((), ())))))
                                else
                                  some ((0, ()), ((), ((), ((), ())))))))
                          else
                            (bif decide ((((S_matR x0 (((x1.getD x2.toNat ((strOf []), ((strOf []), ()))).2).1)).2).1 = 2)) then
                              (bif (!(decide ((((S_matR x0 (((x1.getD ((wrapI .i64 (x2 - 1)).toNat) ((strOf []), ((strOf []), ()))).2).1)).2).1 = 1)))) then
                                some ((8, ()), ((), ((), ((), ()))))
                              else
                                (bif decide ((((S_matR x0 (((x1.getD ((wrapI .i64 (x2 - 1)).toNat) ((strOf []), ((strOf []), ()))).2).1)).2).1 = 2)) then
                                  (bif (!(decide ((((S_matR x0 (((x1.getD x2.toNat ((strOf []), ((strOf []), ()))).2).1)).2).1 = 1)))) then
                                    some ((8, ()), ((), ((), ((), ()))))
                                  else
                                    some ((0, ()), ((), ((), ((), ())))))
                                else
                                  some ((0, ()), ((), ((), ((), ()))))))
                            else
                              (bif decide ((((S_matR x0 (((x1.getD ((wrapI .i64 (x2 - 1)).toNat) ((strOf []), ((strOf []), ()))).2).1)).2).1 = 2)) then
                                (bif (!(decide ((((S_matR x0 (((x1.getD x2.toNat ((strOf []), ((strOf []), ()))).2).1)).2).1 = 1)))) then
                                  some ((8, ()), ((), ((), ((), ()))))
                                else
                                  some ((0, ()), ((), ((), ((), ())))))
                              else
                                some ((0, ()), ((), ((), ((), ())))))))
                        else
                          none))))
                  n ((0, ()), ())
                else
                  none)
              else
                (bif decide ((x2 = 0)) then
                  some ((0, ()), ((), ((), ((), ()))))
                else
                  (bif inB (wrapI .i64 (x2 - 1)) x1.length then
                    (bif decide ((((S_matR x0 (((x1.getD x2.toNat ((strOf []), ((strOf []), ()))).2).1)).2).1 = 1)) then
                      (bif decide ((((S_matR x0 (((x1.getD ((wrapI .i64 (x2 - 1)).toNat) ((strOf []), ((strOf []), ()))).2).1)).2).1 = 1)) then
                        some ((8, ()), ((), ((), ((), ()))))
                      else
                        (bif decide ((((S_matR x0 (((x1.getD x2.toNat ((strOf []), ((strOf []), ()))).2).1)).2).1 = 2)) then
                          (bif (!(decide ((((S_matR x0 (((x1.getD ((wrapI .i64 (x2 - 1)).toNat) ((strOf []), ((strOf []), ()))).2).1)).2).1 = 1)))) then
                            some ((8, ()), ((), ((), ((), ()))))
                          else
                            (bif decide ((((S_matR x0 (((x1.getD ((wrapI .i64 (x2 - 1)).toNat) ((strOf []), ((strOf []), ()))).2).1)).2).1 = 2)) then
                              (bif (!(decide ((((S_matR x0 (((x1.getD x2.toNat ((strOf []), ((strOf []), ()))).2).1)).2).1 = 1)))) then
                                some ((8, ()), ((), ((), ((), ()))))
                              else
                                some ((0, ()), ((), ((), ((), ())))))
                            else
                              some ((0, ()), ((), ((), ((), ()))))))
                        else
                          (bif decide ((((S_matR x0 (((x1.getD ((wrapI .i64 (x2 - 1)).toNat) ((strOf []), ((strOf []), ()))).2).1)).2).1 = 2)) then
                            (bif (!(decide ((((S_matR x0 (((x1.getD x2.toNat ((strOf []), ((strOf []), ()))).2).1)).2).1 = 1)))) then
                              some ((8, ()), ((), ((), ((), ()))))
                            else
                              some ((0, ()), ((), ((), ((), ())))))
                          else
                            some ((0, ()), ((), ((), ((), ())))))))
                    else
                      (bif decide ((((S_matR x0 (((x1.getD x2.toNat ((strOf []), ((strOf []), ()))).2).1)).2).1 = 2)) then
                        (bif (!(decide ((((S_matR x0 (((x1.getD ((wrapI .i64 (x2 - 1)).toNat) ((strOf []), ((strOf []), ()))).2).1)).2).1 = 1)))) then
                          some ((8, ()), ((), ((), ((), ()))))
                        else
                          (bif decide ((((S_matR x0 (((x1.getD ((wrapI .i64 (x2 - 1)).toNat) ((strOf []), ((strOf []), ()))).2).1)).2).1 = 2)) then
                            (bif (!(decide ((((S_matR x0 (((x1.getD x2.toNat ((strOf []), ((strOf []), ()))).2).1)).2).1 = 1)))) then
                              some ((8, ()), ((), ((), ((), ()))))
                            else
                              some ((0, ()), ((), ((), ((), ())))))
                          else
                            some ((0, ()), ((), ((), ((), ()))))))
                      else
                        (bif decide ((((S_matR x0 (((x1.getD ((wrapI .i64 (x2 - 1)).toNat) ((strOf []), ((strOf []), ()))).2).1)).2).1 = 2)) then
                          (bif (!(decide ((((S_matR x0 (((x1.getD x2.toNat ((strOf []), ((strOf []), ()))).2).1)).2).1 = 1)))) then
                            some ((8, ()), ((), ((), ((), ()))))
                          else
                            some ((0, ()), ((), ((), ((), ())))))
                        else
                          some ((0, ()), ((), ((), ((), ())))))))
                  else
                    none)))))
        else
          none)
      else
        (bif (!(decide ((((S_matR x0 (((x1.getD x2.toNat ((strOf []), ((strOf []), ()))).2).1)).2).1 = 1)))) then
          (bif inB x2 x1.length then
            (bif (!(decide ((ByteArray.toList ((x1.getD x2.toNat ((strOf []), ((strOf []), ()))).1) = ByteArray.toList (strOf []))))) then
              some ((5, ()), ((), ((), ((), ()))))
            else
              (bif decide ((((S_matR x0 (((x1.getD x2.toNat ((strOf []), ((strOf []), ()))).2).1)).2).1 = 1)) then
                (bif (decide ((0 ≤ x2)) && decide ((x2 ≤ ((x1.length : Nat) : Int)))) then
                  loopN (fun rec3 => fun
                  | ((v3aa, ()), ()) =>
                    (bif decide ((v3aa < ((((x1.drop 0).take (x2.toNat - 0)).length : Nat) : Int))) then
                      (bif inB v3aa (((x1.drop 0).take (x2.toNat - 0)).length) then
                        (bif inB x2 x1.length then
                          (bif decide ((ByteArray.toList ((((x1.drop 0).take (x2.toNat - 0)).getD v3aa.toNat ((strOf []), ((strOf []), ()))).1) = ByteArray.toList ((x1.getD x2.toNat ((strOf []), ((strOf []), ()))).1))) then
                            some ((7, ()), ((), ((), ((), ()))))
                          else
                            rec3 ((wrapI .i64 (v3aa + 1), ()), ()))
                        else
                          none)
                      else
                        none)
                    else
                      (bif decide ((x2 = 0)) then
                        some ((0, ()), ((), ((), ((), ()))))
                      else
                        (bif inB (wrapI .i64 (x2 - 1)) x1.length then
                          (bif decide ((((S_matR x0 (((x1.getD x2.toNat ((strOf []), ((strOf []), ()))).2).1)).2).1 = 1)) then
                            (bif decide ((((S_matR x0 (((x1.getD ((wrapI .i64 (x2 - 1)).toNat) ((strOf []), ((strOf []), ()))).2).1)).2).1 = 1)) then
                              some ((8, ()), ((), ((), ((), ()))))
                            else
                              (bif decide ((((S_matR x0 (((x1.getD x2.toNat ((strOf []), ((strOf []), ()))).2).1)).2).1 = 2)) then
                                (bif (!(decide ((((S_matR x0 (((x1.getD ((wrapI .i64 (x2 - 1)).toNat) ((strOf []), ((strOf []), ()))).2).1)).2).1 = 1)))) then
                                  some ((8, ()), ((), ((), ((), ()))))
                                else
                                  (bif decide ((((S_matR x0 (((x1.getD ((wrapI .i64 (x2 - 1)).toNat) ((strOf []), ((strOf []), ()))).2).1)).2).1 = 2)) then
                                    (bif (!(decide ((((S_matR x0 (((x1.getD x2.toNat ((strOf []), ((strOf []), ()))).2).1)).2).1 = 1)))) then
                                      some ((8, ()), ((), ((), ((), ()))))
                                    else
                                      some ((0, ()), ((), ((), ((), ())))))
                                  else
                                    some ((0, ()), ((), ((), ((), ()))))))
                              else
                                (bif decide ((((S_matR x0 (((x1.getD ((wrapI .i64 (x2 - 1)).toNat) ((strOf []), ((strOf []), ()))).2).1)).2).1 = 2)) then
                                  (bif (!(decide ((((S_matR x0 (((x1.getD x2.toNat ((strOf []), ((strOf []), ()))).2).1)).2).1 = 1)))) then
                                    some ((8, ()), ((), ((), ((), ()))))
                                  else
                                    some ((0, ()), ((), ((), ((), ())))))
                                else
                                  some ((0, ()), ((), ((), ((), ())))))))
                          else
                            (bif decide ((((S_matR x0 (((x1.getD x2.toNat ((strOf []), ((strOf []), ()))).2).1)).2).1 = 2)) then
                              (bif (!(decide ((((S_matR x0 (((x1.getD ((wrapI .i64 (x2 - 1)).toNat) ((strOf []), ((strOf []), ()))).2).1)).2).1 = 1)))) then
                                some ((8, ()), ((), ((), ((), ()))))
                              else
                                (bif decide ((((S_matR x0 (((x1.getD ((wrapI .i64 (x2 - 1)).toNat) ((strOf []), ((strOf []), ()))).2).1)).2).1 = 2)) then
                                  (bif (!(decide ((((S_matR x0 (((x1.getD x2.toNat ((strOf []), ((strOf []), ()))).2).1)).2).1 = 1)))) then
                                    some ((8, ()), ((), ((), ((), ()))))
                                  else
                                    some ((0, ()), ((), ((), ((), ())))))
                                else
                                  some ((0, ()), ((), ((), ((), ()))))))
                            else
                              (bif decide ((((S_matR x0 (((x1.getD ((wrapI .i64 (x2 - 1)).toNat) ((strOf []), ((strOf []), ()))).2).1)).2).1 = 2)) then
                                (bif (!(decide ((((S_matR x0 (((x1.getD x2.toNat ((strOf []), ((strOf []), ()))).2).1)).2).1 = 1)))) then
                                  some ((8, ()), ((), ((), ((), ()))))
                                else
                                  some ((0, ()), ((), ((), ((), ())))))
                              else
                                some ((0, ()), ((), ((), ((), ())))))))
                        else
                          none))))
                  n ((0, ()), ())
                else
                  none)
              else
                (bif decide ((x2 = 0)) then
                  some ((0, ()), ((), ((), ((), ()))))
                else
                  (bif inB (wrapI .i64 (x2 - 1)) x1.length then
                    (bif decide ((((S_matR x0 (((x1.getD x2.toNat ((strOf []), ((strOf []), ()))).2).1)).2).1 = 1)) then
                      (bif decide ((((S_matR x0 (((x1.getD ((wrapI .i64 (x2 - 1)).toNat) ((strOf []), ((strOf []), ()))).2).1)).2).1 = 1)) then
                        some ((8, ()), ((), ((), ((), ()))))
                      else
                        (bif decide ((((S_matR x0 (((x1.getD x2.toNat ((strOf []), ((strOf []), ()))).2).1)).2).1 = 2)) then
                          (bif (!(decide ((((S_matR x0 (((x1.getD ((wrapI .i64 (x2 - 1)).toNat) ((strOf []), ((strOf []), ()))).2).1)).2).1 = 1)))) then
                            some ((8, ()), ((), ((), ((), ()))))
                          else
                            (bif decide ((((S_matR x0 (((x1.getD ((wrapI .i64 (x2 - 1)).toNat) ((strOf []), ((strOf []), ()))).2).1)).2).1 = 2)) then
                              (bif (!(decide ((((S_matR x0 (((x1.getD x2.toNat ((strOf []), ((strOf []), ()))).2).1)).2).1 = 1)))) then
                                some ((8, ()), ((), ((), ((), ()))))
                              else
                                some ((0, ()), ((), ((), ((), ())))))
                            else
                              some ((0, ()), ((), ((), ((), ()))))))
                        else
                          (bif decide ((((S_matR x0 (((x1.getD ((wrapI .i64 (x2 - 1)).toNat) ((strOf []), ((strOf []), ()))).2).1)).2).1 = 2)) then
                            (bif (!(decide ((((S_matR x0 (((x1.getD x2.toNat ((strOf []), ((strOf []), ()))).2).1)).2).1 = 1)))) then
                              some ((8, ()), ((), ((), ((), ()))))
                            else
                              some ((0, ()), ((), ((), ((), ())))))
                          else
                            some ((0, ()), ((), ((), ((), ())))))))
                    else
                      (bif decide ((((S_matR x0 (((x1.getD x2.toNat ((strOf []), ((strOf []), ()))).2).1)).2).1 = 2)) then
                        (bif (!(decide ((((S_matR x0 (((x1.getD ((wrapI .i64 (x2 - 1)).toNat) ((strOf []), ((strOf []), ()))).2).1)).2).1 = 1)))) then
                          some ((8, ()), ((), ((), ((), ()))))
                        else
                          (bif decide ((((S_matR x0 (((x1.getD ((wrapI .i64 (x2 - 1)).toNat) ((strOf []), ((strOf []), ()))).2).1)).2).1 = 2)) then
                            (bif (!(decide ((((S_matR x0 (((x1.getD x2.toNat ((strOf []), ((strOf []), ()))).2).1)).2).1 = 1)))) then
                              some ((8, ()), ((), ((), ((), ()))))
                            else
                              some ((0, ()), ((), ((), ((), ())))))
                          else
                            some ((0, ()), ((), ((), ((), ()))))))
                      else
                        (bif decide ((((S_matR x0 (((x1.getD ((wrapI .i64 (x2 - 1)).toNat) ((strOf []), ((strOf []), ()))).2).1)).2).1 = 2)) then
                          (bif (!(decide ((((S_matR x0 (((x1.getD x2.toNat ((strOf []), ((strOf []), ()))).2).1)).2).1 = 1)))) then
                            some ((8, ()), ((), ((), ((), ()))))
                          else
                            some ((0, ()), ((), ((), ((), ())))))
                        else
                          some ((0, ()), ((), ((), ((), ())))))))
                  else
                    none))))
          else
            none)
        else
          (bif decide ((((S_matR x0 (((x1.getD x2.toNat ((strOf []), ((strOf []), ()))).2).1)).2).1 = 1)) then
            (bif (decide ((0 ≤ x2)) && decide ((x2 ≤ ((x1.length : Nat) : Int)))) then
              loopN (fun rec4 => fun
              | ((v4aa, ()), ()) =>
                (bif decide ((v4aa < ((((x1.drop 0).take (x2.toNat - 0)).length : Nat) : Int))) then
                  (bif inB v4aa (((x1.drop 0).take (x2.toNat - 0)).length) then
                    (bif inB x2 x1.length then
                      (bif decide ((ByteArray.toList ((((x1.drop 0).take (x2.toNat - 0)).getD v4aa.toNat ((strOf []), ((strOf []), ()))).1) = ByteArray.toList ((x1.getD x2.toNat ((strOf []), ((strOf []), ()))).1))) then
                        some ((7, ()), ((), ((), ((), ()))))
                      else
                        rec4 ((wrapI .i64 (v4aa + 1), ()), ()))
                    else
                      none)
                  else
                    none)
                else
                  (bif decide ((x2 = 0)) then
                    some ((0, ()), ((), ((), ((), ()))))
                  else
                    (bif inB (wrapI .i64 (x2 - 1)) x1.length then
                      (bif decide ((((S_matR x0 (((x1.getD x2.toNat ((strOf []), ((strOf []), ()))).2).1)).2).1 = 1)) then
                        (bif decide ((((S_matR x0 (((x1.getD ((wrapI .i64 (x2 - 1)).toNat) ((strOf []), ((strOf []), ()))).2).1)).2).1 = 1)) then
                          some ((8, ()), ((), ((), ((), ()))))
                        else
                          (bif decide ((((S_matR x0 (((x1.getD x2.toNat ((strOf []), ((strOf []), ()))).2).1)).2).1 = 2)) then
                            (bif (!(decide ((((S_matR x0 (((x1.getD ((wrapI .i64 (x2 - 1)).toNat) ((strOf []), ((strOf []), ()))).2).1)).2).1 = 1)))) then
                              some ((8, ()), ((), ((), ((), ()))))
                            else
                              (bif decide ((((S_matR x0 (((x1.getD ((wrapI .i64 (x2 - 1)).toNat) ((strOf []), ((strOf []), ()))).2).1)).2).1 = 2)) then
                                (bif (!(decide ((((S_matR x0 (((x1.getD x2.toNat ((strOf []), ((strOf []), ()))).2).1)).2).1 = 1)))) then
                                  some ((8, ()), ((), ((), ((), ()))))
                                else
                                  some ((0, ()), ((), ((), ((), ())))))
                              else
                                some ((0, ()), ((), ((), ((), ()))))))
                          else
                            (bif decide ((((S_matR x0 (((x1.getD ((wrapI .i64 (x2 - 1)).toNat) ((strOf []), ((strOf []), ()))).2).1)).2).1 = 2)) then
                              (bif (!(decide ((((S_matR x0 (((x1.getD x2.toNat ((strOf []), ((strOf []), ()))).2).1)).2).1 = 1)))) then
                                some ((8, ()), ((), ((), ((), ()))))
                              else
                                some ((0, ()), ((), ((), ((), ())))))
                            else
                              some ((0, ()), ((), ((), ((), ())))))))
                      else
                        (bif decide ((((S_matR x0 (((x1.getD x2.toNat ((strOf []), ((strOf []), ()))).2).1)).2).1 = 2)) then
                          (bif (!(decide ((((S_matR x0 (((x1.getD ((wrapI .i64 (x2 - 1)).toNat) ((strOf []), ((strOf []), ()))).2).1)).2).1 = 1)))) then
                            some ((8, ()), ((), ((), ((), ()))))
                          else
                            (bif decide ((((S_matR x0 (((x1.getD ((wrapI .i64 (x2 - 1)).toNat) ((strOf []), ((strOf []), ()))).2).1)).2).1 = 2)) then
                              (bif (!(decide ((((S_matR x0 (((x1.getD x2.toNat ((strOf []), ((strOf []), ()))).2).1)).2).1 = 1)))) then
                                some ((8, ()), ((), ((), ((), ()))))
                              else
                                some ((0, ()), ((), ((), ((), ())))))
                            else
                              some ((0, ()), ((), ((), ((), ()))))))
                        else
                          (bif decide ((((S_matR x0 (((x1.getD ((wrapI .i64 (x2 - 1)).toNat) ((strOf []), ((strOf []), ()))).2).1)).2).1 = 2)) then
                            (bif (!(decide ((((S_matR x0 (((x1.getD x2.toNat ((strOf []), ((strOf []), ()))).2).1)).2).1 = 1)))) then
                              some ((8, ()), ((), ((), ((), ()))))
                            else
                              some ((0, ()), ((), ((), ((), ())))))
                          else
                            some ((0, ()), ((), ((), ((), ())))))))
                    else
                      none))))
              n ((0, ()), ())
            else
              none)
          else
            (bif decide ((x2 = 0)) then
              some ((0, ()), ((), ((), ((), ()))))
            else
              (bif inB (wrapI .i64 (x2 - 1)) x1.length then
                (bif decide ((((S_matR x0 (((x1.getD x2.toNat ((strOf []), ((strOf []), ()))).2).1)).2).1 = 1)) then
                  (bif decide ((((S_matR x0 (((x1.getD ((wrapI .i64 (x2 - 1)).toNat) ((strOf []), ((strOf []), ()))).2).1)).2).1 = 1)) then
                    some ((8, ()), ((), ((), ((), ()))))
                  else
                    (bif decide ((((S_matR x0 (((x1.getD x2.toNat ((strOf []), ((strOf []), ()))).2).1)).2).1 = 2)) then
                      (bif (!(decide ((((S_matR x0 (((x1.getD ((wrapI .i64 (x2 - 1)).toNat) ((strOf []), ((strOf []), ()))).2).1)).2).1 = 1)))) then
                        some ((8, ()), ((), ((), ((), ()))))
                      else
                        (bif decide ((((S_matR x0 (((x1.getD ((wrapI .i64 (x2 - 1)).toNat) ((strOf []), ((strOf []), ()))).2).1)).2).1 = 2)) then
                          (bif (!(decide ((((S_matR x0 (((x1.getD x2.toNat ((strOf []), ((strOf []), ()))).2).1)).2).1 = 1)))) then
                            some ((8, ()), ((), ((), ((), ()))))
                          else
                            some ((0, ()), ((), ((), ((), ())))))
                        else
                          some ((0, ()), ((), ((), ((), ()))))))
                    else
                      (bif decide ((((S_matR x0 (((x1.getD ((wrapI .i64 (x2 - 1)).toNat) ((strOf []), ((strOf []), ()))).2).1)).2).1 = 2)) then
                        (bif (!(decide ((((S_matR x0 (((x1.getD x2.toNat ((strOf []), ((strOf []), ()))).2).1)).2).1 = 1)))) then
                          some ((8, ()), ((), ((), ((), ()))))
                        else
                          some ((0, ()), ((), ((), ((), ())))))
                      else
                        some ((0, ()), ((), ((), ((), ())))))))
                else
                  (bif decide ((((S_matR x0 (((x1.getD x2.toNat ((strOf []), ((strOf []), ()))).2).1)).2).1 = 2)) then
                    (bif (!(decide ((((S_matR x0 (((x1.getD ((wrapI .i64 (x2 - 1)).toNat) ((strOf []), ((strOf []), ()))).2).1)).2).1 = 1)))) then
                      some ((8, ()), ((), ((), ((), ()))))
                    else
                      (bif decide ((((S_matR x0 (((x1.getD ((wrapI .i64 (x2 - 1)).toNat) ((strOf []), ((strOf []), ()))).2).1)).2).1 = 2)) then
                        (bif (!(decide ((((S_matR x0 (((x1.getD x2.toNat ((strOf []), ((strOf []), ()))).2).1)).2).1 = 1)))) then
                          some ((8, ()), ((), ((), ((), ()))))
                        else
                          some ((0, ()), ((), ((), ((), ())))))
                      else
                        some ((0, ()), ((), ((), ((), ()))))))
                  else
                    (bif decide ((((S_matR x0 (((x1.getD ((wrapI .i64 (x2 - 1)).toNat) ((strOf []), ((strOf []), ()))).2).1)).2).1 = 2)) then
                      (bif (!(decide ((((S_matR x0 (((x1.getD x2.toNat ((strOf []), ((strOf []), ()))).2).1)).2).1 = 1)))) then
                        some ((8, ()), ((), ((), ((), ()))))
                      else
                        some ((0, ()), ((), ((), ((), ())))))
                    else
                      some ((0, ()), ((), ((), ((), ())))))))
              else
                none))))))
  else
    none)
theorem B_etchhouseref4_checkLayer_eq (n : Nat) (x0 : List (ByteArray × (Int × (Int × (Int × Unit))))) (x1 : List (ByteArray × (ByteArray × Unit))) (x2 : Int) : bodyE ty T_etchhouseref4_checkLayer n I_etchhouseref4_checkLayer (x0, (x1, (x2, ()))) = B_etchhouseref4_checkLayer n x0 x1 x2 := by kernel_rfl

end Go.Proofs.Ytimaiganehbglaa
namespace Go.Proofs.Ytimaiganehbglaa
open Go Go.VM
def S_layO (x0 : List Mat) (x1 : List Lay) (x2 : Int) : Option ((Int × Unit) × Unit × Unit × Unit × Unit) := bif inB x2 x1.length then some ((layC x0 x1 (x1.getD x2.toNat lay0) x2.toNat, ()), ((), (), (), ())) else none
theorem ok_etchhouseref4_checkLayer (x0 : List Mat) (x1 : List Lay) (x2 : Int) (hok : OkA I_etchhouseref4_checkLayer.args (x0, x1, x2, ())) (r) (h : S_layO x0 x1 x2 = some r) : ∃ n, bodyE ty T_etchhouseref4_checkLayer n I_etchhouseref4_checkLayer (x0, x1, x2, ()) = some r := ⟨x1.length + 1, by
  have hl : x1.length ≤ maxLen := hok.2.1.1
  rw [B_etchhouseref4_checkLayer_eq, ← h]
  unfold S_layO at h ⊢
  cases hd : inB x2 x1.length with
  | false => rw [hd] at h; cases h
  | true =>
    clear h
    obtain ⟨i, rfl⟩ : ∃ i : Nat, x2 = i := ⟨x2.toNat, by simp only [inB, Bool.and_eq_true, decide_eq_true_eq] at hd; omega⟩
    have hi : i < x1.length := by simp only [inB, Bool.and_eq_true, decide_eq_true_eq] at hd; omega
    unfold B_etchhouseref4_checkLayer layC S_kindR
    have c1 : (decide ((0 : Int) ≤ (i : Int)) && decide ((i : Int) ≤ ((x1.length : Nat) : Int))) = true := by simp; omega
    have hle : (x1.take i).length ≤ x1.length := by simp; omega
    have e0 : decide ((i : Int) = 0) = decide (i = 0) := by by_cases h : i = 0 <;> simp [h]
    simp only [hd, c1, cond_true, Int.toNat_natCast, Nat.sub_zero, List.drop_zero, getD_at hi, e0, str_dec]
    have lp : ∀ (Y N : Option ((Int × Unit) × Unit × Unit × Unit × Unit)), loopN (fun rec1 => fun
      | ((v1aa, ()), ()) =>
        (bif decide ((v1aa < (((x1.take i).length : Nat) : Int))) then
          (bif inB v1aa ((x1.take i).length) then
            (bif decide ((((x1.take i).getD v1aa.toNat ((strOf []), ((strOf []), ()))).1) = (x1[i].1)) then
                Y
              else
                rec1 ((wrapI .i64 (v1aa + 1), ()), ()))
          else
            none)
        else N)) (x1.length + 1) ((0, ()), ()) = bif (x1.take i).any (fun x => decide (x.1 = x1[i].1)) then Y else N := fun Y N =>
      any_loop (fun x : Lay => decide (x.1 = x1[i].1)) lay0 (Nat.le_trans hle hl) (Nat.lt_succ_of_le hle)
    simp only [lp]
    generalize (x1.take i).any (fun x => decide (x.1 = x1[i].1)) = tw
    generalize S_word x1[i].1 = w
    generalize decide (x1[i].1 = strOf []) = em
    generalize (S_matR x0 x1[i].2.1).2.1 = k
    by_cases h0 : i = 0
    · subst h0
      simp only [decide_true, cond_true]
      cases decide (k = 0) with
      | true => rfl
      | false => cases decide (k = 1) <;> cases w <;> cases em <;> cases tw <;> rfl
    · have hl' : x1.length ≤ 9223372036854775807 := Nat.le_trans hl (by decide)
      have e2 : wrapI .i64 ((i : Int) - 1) = ((i - 1 : Nat) : Int) := by rw [wrap64 (by omega) (by omega)]; omega
      simp only [decide_eq_false h0, e2, inB_nat (show i - 1 < x1.length by omega), cond_true, cond_false, Int.toNat_natCast]
      change (bif decide (k = 0) then _ else _) = _
      rw [show x1.getD (i - 1) (strOf [], strOf [], ()) = x1.getD (i - 1) lay0 from rfl]
      obtain ⟨b, hb⟩ : ∃ b, (S_matR x0 (x1.getD (i - 1) lay0).2.1).2.1 = b := ⟨_, rfl⟩
      simp only [hb]
      cases decide (k = 0) with
      | true => rfl
      | false =>
        cases decide (k = 1) with
        | true => cases w <;> cases tw <;> cases decide (b = 1) <;> cases decide (b = 2) <;> cases decide (k = 2) <;> rfl
        | false => cases em <;> cases decide (b = 1) <;> cases decide (b = 2) <;> cases decide (k = 2) <;> rfl⟩
noncomputable def E_etchhouseref4_checkLayer : Entry Try.prog := Entry.of tok T_etchhouseref4_checkLayer I_etchhouseref4_checkLayer it_etchhouseref4_checkLayer (fun (x0, x1, x2, ()) => S_layO x0 x1 x2) (fun (x0, x1, x2, ()) r hok h => ok_etchhouseref4_checkLayer x0 x1 x2 hok r h)

end Go.Proofs.Ytimaiganehbglaa
namespace Go.Proofs.Ytimaiganehbglaa
open Go Go.VM
/-! ### etchhouse.etchhouseref4.isCopper -/
noncomputable def I_etchhouseref4_isCopper : Inst := ⟨44, Try.f44, .two (.reg []) (.two (.reg [(3, 0)]) (.leaf)), (.cons (.pv (.sl (.pair .str (.pair i (.pair i (.pair i .unit)))))) (.cons (.pv (.pair .str (.pair .str .unit))) .nil)), (.cons .flat .bool .nil)⟩
theorem it_etchhouseref4_isCopper : InTab Try.prog I_etchhouseref4_isCopper := ⟨Try.func44, by kernel_rfl, rfl⟩
noncomputable def T_etchhouseref4_isCopper : Nat → Entry Try.prog := nth (Entry.no Try.f0) [E_etchhouseref4_materialOf]
noncomputable def B_etchhouseref4_isCopper (x0 : List (ByteArray × (Int × (Int × (Int × Unit))))) (x1 : (ByteArray × (ByteArray × Unit))) : Option (((Bool × Unit) × (Unit × (Unit × Unit)))) :=
  some ((decide ((((S_matR x0 x1.2.1).2).1 = 1)), ()), ((), ((), ())))
theorem B_etchhouseref4_isCopper_eq (n : Nat) (x0 : List (ByteArray × (Int × (Int × (Int × Unit))))) (x1 : (ByteArray × (ByteArray × Unit))) : bodyE ty T_etchhouseref4_isCopper n I_etchhouseref4_isCopper (x0, (x1, ())) = B_etchhouseref4_isCopper x0 x1 := by kernel_rfl

end Go.Proofs.Ytimaiganehbglaa
namespace Go.Proofs.Ytimaiganehbglaa
open Go Go.VM
theorem ok_etchhouseref4_isCopper (x0 : List Mat) (x1 : Lay) (hok : OkA I_etchhouseref4_isCopper.args (x0, x1, ())) : ∃ n, bodyE ty T_etchhouseref4_isCopper n I_etchhouseref4_isCopper (x0, x1, ()) = some ((S_isCuR x0 x1, ()), ((), (), ())) := ⟨0, by rw [B_etchhouseref4_isCopper_eq]; rfl⟩
noncomputable def E_etchhouseref4_isCopper : Entry Try.prog := Entry.of tok T_etchhouseref4_isCopper I_etchhouseref4_isCopper it_etchhouseref4_isCopper (fun (x0, x1, ()) => some ((S_isCuR x0 x1, ()), ((), (), ()))) (fun (x0, x1, ()) r hok h => by cases h; exact ok_etchhouseref4_isCopper x0 x1 hok)

end Go.Proofs.Ytimaiganehbglaa
namespace Go.Proofs.Ytimaiganehbglaa
open Go Go.VM
/-! ### etchhouse.etchhouseref4.coppers -/
noncomputable def I_etchhouseref4_coppers : Inst := ⟨43, Try.f43, .two (.reg []) (.two (.reg []) (.two (.two (.reg []) (.one (.loop ⟨[(5, .st (.at (.rf 5 []))), (10, .pv i)], [(5, ⟨(.own .flat), (.sl i), false, false⟩)], [0, 8, 9], []⟩ (.two (.reg []) (.two (.two (.leaf) (.leaf)) (.two (.one (.two (.reg []) (.two (.reg [(2, 0)]) (.two (.reg []) (.leaf))))) (.reg []))))))) (.two (.reg []) (.leaf)))), (.cons (.pv (.sl (.pair .str (.pair i (.pair i (.pair i .unit)))))) (.cons (.pv (.sl (.pair .str (.pair .str .unit)))) .nil)), (.cons (.own .flat) (.sl i) .nil)⟩
theorem it_etchhouseref4_coppers : InTab Try.prog I_etchhouseref4_coppers := ⟨Try.func43, by kernel_rfl, rfl⟩
noncomputable def T_etchhouseref4_coppers : Nat → Entry Try.prog := nth (Entry.no Try.f0) [E_etchhouseref4_isCopper]
noncomputable def B_etchhouseref4_coppers (n : Nat) (x0 : List (ByteArray × (Int × (Int × (Int × Unit))))) (x1 : List (ByteArray × (ByteArray × Unit))) : Option (((List Int × Unit) × (Unit × (Unit × Unit)))) :=
  loopN (fun rec1 => fun
  | ((v1aa, ()), (v1ba, ())) =>
    (bif decide ((v1aa < ((x1.length : Nat) : Int))) then
      (bif inB v1aa x1.length then
        (bif S_isCuR x0 (x1.getD v1aa.toNat ((strOf []), ((strOf []), ()))) then
          (bif decide (((v1ba.length + 1) ≤ 4294967296)) then
            rec1 ((wrapI .i64 (v1aa + 1), ()), ((v1ba ++ [v1aa]), ()))
          else
            none)
        else
          rec1 ((wrapI .i64 (v1aa + 1), ()), (v1ba, ())))
      else
        none)
    else
      some ((v1ba, ()), ((), ((), ())))))
  n ((0, ()), ([], ()))
theorem B_etchhouseref4_coppers_eq (n : Nat) (x0 : List (ByteArray × (Int × (Int × (Int × Unit))))) (x1 : List (ByteArray × (ByteArray × Unit))) : bodyE ty T_etchhouseref4_coppers n I_etchhouseref4_coppers (x0, (x1, ())) = B_etchhouseref4_coppers n x0 x1 := by kernel_rfl

end Go.Proofs.Ytimaiganehbglaa
namespace Go.Proofs.Ytimaiganehbglaa
open Go Go.VM
def S_cusO_etchhouseref4_coppers (x0 : List Mat) (x1 : List Lay) : Option ((List Int × Unit) × Unit × Unit × Unit) := bif decide (x1.length ≤ 4294967296) then some ((S_cusR x0 x1, ()), ((), (), ())) else none
theorem ok_etchhouseref4_coppers (x0 : List Mat) (x1 : List Lay) (hok : OkA I_etchhouseref4_coppers.args (x0, x1, ())) (r) (h : S_cusO_etchhouseref4_coppers x0 x1 = some r) : ∃ n, bodyE ty T_etchhouseref4_coppers n I_etchhouseref4_coppers (x0, x1, ()) = some r := ⟨x1.length + 1, by
  have hl : x1.length ≤ maxLen := hok.2.1.1
  rw [B_etchhouseref4_coppers_eq, ← h]
  unfold S_cusO_etchhouseref4_coppers at h ⊢
  cases hd : decide (x1.length ≤ 4294967296) with
  | false => rw [hd] at h; cases h
  | true =>
    unfold B_etchhouseref4_coppers S_cusR
    exact idx_loop (S_isCuR x0) (R := fun a => some ((a, ()), ((), (), ()))) hl (of_decide_eq_true hd) (Nat.lt_succ_self _)⟩
noncomputable def E_etchhouseref4_coppers : Entry Try.prog := Entry.of tok T_etchhouseref4_coppers I_etchhouseref4_coppers it_etchhouseref4_coppers (fun (x0, x1, ()) => S_cusO_etchhouseref4_coppers x0 x1) (fun (x0, x1, ()) r hok h => ok_etchhouseref4_coppers x0 x1 hok r h)

end Go.Proofs.Ytimaiganehbglaa
namespace Go.Proofs.Ytimaiganehbglaa
open Go Go.VM
/-! ### etchhouse.etchhouseref4.CheckStack -/
noncomputable def I_etchhouseref4_CheckStack : Inst := ⟨14, Try.f14, .two (.reg []) (.two (.two (.reg [(1, 0)]) (.two (.reg []) (.two (.two (.reg []) (.leaf)) (.leaf)))) (.two (.two (.reg []) (.two (.two (.reg []) (.leaf)) (.leaf))) (.two (.two (.reg []) (.one (.loop ⟨[(18, .pv i)], [], [0, 1, 17], []⟩ (.two (.reg []) (.two (.two (.leaf) (.leaf)) (.two (.one (.two (.reg []) (.two (.reg [(3, 1)]) (.two (.reg []) (.two (.two (.reg []) (.leaf)) (.leaf)))))) (.reg []))))))) (.two (.two (.reg [(2, 2), (10, 3), (21, 3)]) (.two (.two (.reg []) (.leaf)) (.leaf))) (.two (.reg []) (.leaf)))))), (.cons (.pv (.sl (.pair .str (.pair i (.pair i (.pair i .unit)))))) (.cons (.pv (.sl (.pair .str (.pair .str .unit)))) .nil)), (.cons .flat i .nil)⟩
theorem it_etchhouseref4_CheckStack : InTab Try.prog I_etchhouseref4_CheckStack := ⟨Try.func14, by kernel_rfl, rfl⟩
noncomputable def T_etchhouseref4_CheckStack : Nat → Entry Try.prog := nth (Entry.no Try.f0) [E_etchhouseref4_CheckMaterials, E_etchhouseref4_checkLayer, E_etchhouseref4_coppers, E_etchhouseref4_isCopper]
noncomputable def B_etchhouseref4_CheckStack (n : Nat) (x0 : List (ByteArray × (Int × (Int × (Int × Unit))))) (x1 : List (ByteArray × (ByteArray × Unit))) : Option (((Int × Unit) × (Unit × (Unit × Unit)))) :=
  (bif (!(decide ((S_chkM x0 = 0)))) then
    some ((S_chkM x0, ()), ((), ((), ())))
  else
    (bif decide ((60 < ((x1.length : Nat) : Int))) then
      some ((2, ()), ((), ((), ())))
    else
      loopN (fun rec1 => fun
      | ((v1aa, ()), ()) =>
        (bif decide ((v1aa < ((x1.length : Nat) : Int))) then
          ((S_layO x0 x1 v1aa).bind fun ((r2aa, ()), ((), ((), ((), ())))) =>
          (bif (!(decide ((r2aa = 0)))) then
            some ((r2aa, ()), ((), ((), ())))
          else
            rec1 ((wrapI .i64 (v1aa + 1), ()), ())))
        else
          ((S_cusO_etchhouseref4_coppers x0 x1).bind fun ((r3aa, ()), ((), ((), ()))) =>
          (bif decide ((((r3aa.length : Nat) : Int) < 2)) then
            some ((3, ()), ((), ((), ())))
          else
            (bif inB 0 x1.length then
              (bif (!(S_isCuR x0 (x1.getD 0 ((strOf []), ((strOf []), ()))))) then
                some ((3, ()), ((), ((), ())))
              else
                (bif inB (wrapI .i64 (((x1.length : Nat) : Int) - 1)) x1.length then
                  (bif (!(S_isCuR x0 (x1.getD ((wrapI .i64 (((x1.length : Nat) : Int) - 1)).toNat) ((strOf []), ((strOf []), ()))))) then
                    some ((3, ()), ((), ((), ())))
                  else
                    some ((0, ()), ((), ((), ()))))
                else
                  none))
            else
              none)))))
      n ((0, ()), ())))
theorem B_etchhouseref4_CheckStack_eq (n : Nat) (x0 : List (ByteArray × (Int × (Int × (Int × Unit))))) (x1 : List (ByteArray × (ByteArray × Unit))) : bodyE ty T_etchhouseref4_CheckStack n I_etchhouseref4_CheckStack (x0, (x1, ())) = B_etchhouseref4_CheckStack n x0 x1 := by kernel_rfl

end Go.Proofs.Ytimaiganehbglaa
namespace Go.Proofs.Ytimaiganehbglaa
open Go Go.VM
theorem ok_etchhouseref4_CheckStack (x0 : List Mat) (x1 : List Lay) (hok : OkA I_etchhouseref4_CheckStack.args (x0, x1, ())) : ∃ n, bodyE ty T_etchhouseref4_CheckStack n I_etchhouseref4_CheckStack (x0, x1, ()) = some ((S_chkS x0 x1, ()), ((), (), ())) := ⟨x1.length + 1, by
  have hl : x1.length ≤ maxLen := hok.2.1.1
  rw [B_etchhouseref4_CheckStack_eq]
  unfold B_etchhouseref4_CheckStack S_chkS
  cases hM : decide (S_chkM x0 = 0) with
  | false => rfl
  | true =>
  have hM := of_decide_eq_true hM
  simp only [Bool.not_true, cond_false, cond_true]
  cases h6 : decide ((60 : Int) < (x1.length : Int)) with
  | true => rfl
  | false =>
  have h6 := of_decide_eq_false h6
  simp only [cond_false]
  refine (loop_list (l := x1) (fun i (_ : Unit) => ((i, ()), ())) (fun a i _ => bif decide (layC x0 x1 a i = 0) then .inl () else .inr (some ((layC x0 x1 a i, ()), ((), (), ())))) (fun _ => some ((bif S_form x0 x1 then 0 else 3, ()), ((), (), ()))) (fun i h s rec => ?_) (fun s rec => ?_) (Nat.lt_succ_self _) ()).trans ?_
  · unfold S_layO
    simp only [lt_nat h, inB_nat h, getD_lt h, succ64 h hl, cond_true, Int.toNat_natCast, Option.bind_some, getD_at h]
    cases decide (layC x0 x1 x1[i] i = 0) <;> rfl
  · have c1 : decide (x1.length ≤ 4294967296) = true := decide_eq_true (by omega)
    simp only [lt_self, cond_false]
    unfold S_cusO_etchhouseref4_coppers
    rw [c1, cond_true]
    simp only [Option.bind_some]
    unfold S_form
    have hle : (S_cusR x0 x1).length ≤ x1.length := idxP_len _ _
    by_cases h2 : ((S_cusR x0 x1).length : Int) < 2
    · rw [decide_eq_true h2, decide_eq_false (show ¬ (2 : Int) ≤ ((S_cusR x0 x1).length : Int) by omega)]; rfl
    · have e2 : wrapI .i64 ((x1.length : Int) - 1) = ((x1.length - 1 : Nat) : Int) := by rw [wrap64 (by omega) (by omega)]; omega
      have e3 : inB (0 : Int) x1.length = true := inB_nat (i := 0) (by omega)
      rw [decide_eq_false h2, decide_eq_true (show (2 : Int) ≤ ((S_cusR x0 x1).length : Int) by omega), e2, e3, inB_nat (show x1.length - 1 < x1.length by omega), Int.toNat_natCast]
      change (bif !S_isCuR x0 (x1.getD 0 lay0) then _ else _) = _
      cases S_isCuR x0 (x1.getD 0 lay0) with
      | false => rfl
      | true =>
        change (bif !S_isCuR x0 (x1.getD (x1.length - 1) lay0) then _ else _) = _
        cases S_isCuR x0 (x1.getD (x1.length - 1) lay0) <;> rfl
  · rw [first_go (f := layC x0 x1) (R := fun a => some ((a, ()), ((), (), ())))]
    cases decide (firstC (layC x0 x1) x1 0 = 0) <;> rfl⟩
noncomputable def E_etchhouseref4_CheckStack : Entry Try.prog := Entry.of tok T_etchhouseref4_CheckStack I_etchhouseref4_CheckStack it_etchhouseref4_CheckStack (fun (x0, x1, ()) => some ((S_chkS x0 x1, ()), ((), (), ()))) (fun (x0, x1, ()) r hok h => by cases h; exact ok_etchhouseref4_CheckStack x0 x1 hok)

end Go.Proofs.Ytimaiganehbglaa
namespace Go.Proofs.Ytimaiganehbglaa
open Go Go.VM
/-! ### etchhouse.etchhouseref4.Mirrored -/
noncomputable def I_etchhouseref4_Mirrored : Inst := ⟨22, Try.f22, .two (.reg []) (.two (.two (.reg [(2, 0)]) (.two (.reg []) (.two (.two (.reg []) (.leaf)) (.leaf)))) (.two (.reg [(1, 1)]) (.two (.reg [(1, 2)]) (.two (.reg []) (.leaf))))), (.cons (.pv (.sl (.pair .str (.pair i (.pair i (.pair i .unit)))))) (.cons (.pv (.sl (.pair .str (.pair .str .unit)))) .nil)), (.cons (.own .flat) (.sl (.pair .str (.pair .str .unit))) (.cons .flat i .nil))⟩
theorem it_etchhouseref4_Mirrored : InTab Try.prog I_etchhouseref4_Mirrored := ⟨Try.func22, by kernel_rfl, rfl⟩
noncomputable def T_etchhouseref4_Mirrored : Nat → Entry Try.prog := nth (Entry.no Try.f0) [E_etchhouseref4_CheckStack, E_slices_Clone_etchhouse_api_Layer_etchhouse_api_Layer, E_slices_Reverse_etchhouse_api_Layer_etchhouse_api_Layer_ios]
noncomputable def B_etchhouseref4_Mirrored (x0 : List (ByteArray × (Int × (Int × (Int × Unit))))) (x1 : List (ByteArray × (ByteArray × Unit))) : Option (((List (ByteArray × (ByteArray × Unit)) × (Int × Unit)) × (Unit × (Unit × Unit)))) :=
  (bif (!(decide ((S_chkS x0 x1 = 0)))) then
    some (([], (S_chkS x0 x1, ())), ((), ((), ())))
  else
    (((bif decide ((x1.length ≤ 4294967296)) then
        some ((x1, ()), ((), ()))
      else
        none)).bind fun ((r1aa, ()), ((), ())) =>
    (((bif decide ((r1aa.length ≤ 4294967296)) then
        some ((), (S_rev r1aa, ()))
      else
        none)).bind fun ((), (r2ba, ())) =>
    some ((r2ba, (0, ())), ((), ((), ()))))))
theorem B_etchhouseref4_Mirrored_eq (n : Nat) (x0 : List (ByteArray × (Int × (Int × (Int × Unit))))) (x1 : List (ByteArray × (ByteArray × Unit))) : bodyE ty T_etchhouseref4_Mirrored n I_etchhouseref4_Mirrored (x0, (x1, ())) = B_etchhouseref4_Mirrored x0 x1 := by kernel_rfl

end Go.Proofs.Ytimaiganehbglaa
namespace Go.Proofs.Ytimaiganehbglaa
open Go Go.VM
def S_mir_etchhouseref4_Mirrored (x0 : List Mat) (x1 : List Lay) : List Lay := bif decide (S_chkS x0 x1 = 0) then x1.reverse else []
theorem ok_etchhouseref4_Mirrored (x0 : List Mat) (x1 : List Lay) (hok : OkA I_etchhouseref4_Mirrored.args (x0, x1, ())) : ∃ n, bodyE ty T_etchhouseref4_Mirrored n I_etchhouseref4_Mirrored (x0, x1, ()) = some ((S_mir_etchhouseref4_Mirrored x0 x1, S_chkS x0 x1, ()), ((), (), ())) := ⟨0, by
  rw [B_etchhouseref4_Mirrored_eq]
  unfold B_etchhouseref4_Mirrored S_mir_etchhouseref4_Mirrored
  cases hs : decide (S_chkS x0 x1 = 0) with
  | false => rfl
  | true =>
    have hs := of_decide_eq_true hs
    have hL := chkS_max hs
    rw [hs]
    have : decide (x1.length ≤ 4294967296) = true := decide_eq_true (by omega)
    simp only [this, Bool.not_true, cond_false, cond_true, Option.bind_some]
    rfl⟩
noncomputable def E_etchhouseref4_Mirrored : Entry Try.prog := Entry.of tok T_etchhouseref4_Mirrored I_etchhouseref4_Mirrored it_etchhouseref4_Mirrored (fun (x0, x1, ()) => some ((S_mir_etchhouseref4_Mirrored x0 x1, S_chkS x0 x1, ()), ((), (), ()))) (fun (x0, x1, ()) r hok h => by cases h; exact ok_etchhouseref4_Mirrored x0 x1 hok)

end Go.Proofs.Ytimaiganehbglaa
namespace Go.Proofs.Ytimaiganehbglaa
open Go Go.VM
/-! ### slices.Equal[[]etchhouse.api.Layer,etchhouse.api.Layer] -/
noncomputable def I_slices_Equal_etchhouse_api_Layer_etchhouse_api_Layer : Inst := ⟨23, Try.f23, .two (.reg []) (.two (.two (.reg []) (.two (.two (.reg []) (.leaf)) (.leaf))) (.two (.two (.reg []) (.one (.loop ⟨[(13, .pv i)], [], [0, 1, 12], []⟩ (.two (.reg []) (.two (.two (.leaf) (.leaf)) (.two (.one (.two (.reg []) (.two (.draw [] [0, 1, 2, 3, 4, 5, 6, 7, 8] []) (.two (.two (.reg []) (.leaf)) (.leaf))))) (.reg []))))))) (.two (.reg []) (.leaf)))), (.cons (.pv (.sl (.pair .str (.pair .str .unit)))) (.cons (.pv (.sl (.pair .str (.pair .str .unit)))) .nil)), (.cons .flat .bool .nil)⟩
theorem it_slices_Equal_etchhouse_api_Layer_etchhouse_api_Layer : InTab Try.prog I_slices_Equal_etchhouse_api_Layer_etchhouse_api_Layer := ⟨Try.func23, by kernel_rfl, rfl⟩
noncomputable def T_slices_Equal_etchhouse_api_Layer_etchhouse_api_Layer : Nat → Entry Try.prog := nth (Entry.no Try.f0) []
noncomputable def B_slices_Equal_etchhouse_api_Layer_etchhouse_api_Layer (n : Nat) (x0 : List (ByteArray × (ByteArray × Unit))) (x1 : List (ByteArray × (ByteArray × Unit))) : Option (((Bool × Unit) × (Unit × (Unit × Unit)))) :=
  (bif (!(decide ((((x0.length : Nat) : Int) = ((x1.length : Nat) : Int))))) then
    some ((false, ()), ((), ((), ())))
  else
    loopN (fun rec1 => fun
    | ((v1aa, ()), ()) =>
      (bif decide ((v1aa < ((x0.length : Nat) : Int))) then
        (bif inB v1aa x0.length then
          (bif inB v1aa x1.length then
            (bif (!(Ty.eqv (.pair .str (.pair .str .unit)) (x0.getD v1aa.toNat ((strOf []), ((strOf []), ()))) (x1.getD v1aa.toNat ((strOf []), ((strOf []), ()))))) then
              some ((false, ()), ((), ((), ())))
            else
              rec1 ((wrapI .i64 (v1aa + 1), ()), ()))
          else
            none)
        else
          none)
      else
        some ((true, ()), ((), ((), ())))))
    n ((0, ()), ()))
theorem B_slices_Equal_etchhouse_api_Layer_etchhouse_api_Layer_eq (n : Nat) (x0 : List (ByteArray × (ByteArray × Unit))) (x1 : List (ByteArray × (ByteArray × Unit))) : bodyE ty T_slices_Equal_etchhouse_api_Layer_etchhouse_api_Layer n I_slices_Equal_etchhouse_api_Layer_etchhouse_api_Layer (x0, (x1, ())) = B_slices_Equal_etchhouse_api_Layer_etchhouse_api_Layer n x0 x1 := by kernel_rfl

end Go.Proofs.Ytimaiganehbglaa
namespace Go.Proofs.Ytimaiganehbglaa
open Go Go.VM
theorem ok_slices_Equal_etchhouse_api_Layer_etchhouse_api_Layer (x0 x1 : List (ByteArray × (ByteArray × Unit))) (hok : OkA I_slices_Equal_etchhouse_api_Layer_etchhouse_api_Layer.args (x0, x1, ())) : ∃ n, bodyE ty T_slices_Equal_etchhouse_api_Layer_etchhouse_api_Layer n I_slices_Equal_etchhouse_api_Layer_etchhouse_api_Layer (x0, x1, ()) = some ((decide (x0 = x1), ()), ((), (), ())) := ⟨x0.length + 1, by
  obtain ⟨⟨hl, _⟩, _⟩ := hok
  rw [B_slices_Equal_etchhouse_api_Layer_etchhouse_api_Layer_eq]
  unfold B_slices_Equal_etchhouse_api_Layer_etchhouse_api_Layer
  exact equal_loop (q := fun x y : (ByteArray × (ByteArray × Unit)) => Ty.eqv (.pair .str (.pair .str .unit)) x y) (fun x y => by rw [Bool.eq_iff_iff, eqv_iff (t := (.pair .str (.pair .str .unit))) rfl]; simp) (R := fun b => ((b, ()), ((), (), ()))) (d := ((strOf []), ((strOf []), ()))) hl (Nat.lt_succ_self _)⟩
noncomputable def E_slices_Equal_etchhouse_api_Layer_etchhouse_api_Layer : Entry Try.prog := Entry.of tok T_slices_Equal_etchhouse_api_Layer_etchhouse_api_Layer I_slices_Equal_etchhouse_api_Layer_etchhouse_api_Layer it_slices_Equal_etchhouse_api_Layer_etchhouse_api_Layer (fun (x0, x1, ()) => some ((decide (x0 = x1), ()), ((), (), ()))) (fun (x0, x1, ()) r hok h => by cases h; exact ok_slices_Equal_etchhouse_api_Layer_etchhouse_api_Layer x0 x1 hok)

end Go.Proofs.Ytimaiganehbglaa
namespace Go.Proofs.Ytimaiganehbglaa
open Go Go.VM
/-! ### etchhouse.stack.thick -/
noncomputable def I_stack_thick : Inst := ⟨33, Try.f33, .two (.reg []) (.two (.reg []) (.two (.two (.reg []) (.one (.loop ⟨[(5, .pv i), (12, .pv i)], [], [0, 10, 11], []⟩ (.two (.reg []) (.two (.two (.leaf) (.leaf)) (.two (.one (.two (.reg []) (.two (.reg [(3, 0)]) (.reg [])))) (.reg []))))))) (.two (.reg []) (.leaf)))), (.cons (.pv (.sl (.pair .str (.pair i (.pair i (.pair i .unit)))))) (.cons (.pv (.sl (.pair .str (.pair .str .unit)))) .nil)), (.cons .flat i .nil)⟩
theorem it_stack_thick : InTab Try.prog I_stack_thick := ⟨Try.func33, by kernel_rfl, rfl⟩
noncomputable def T_stack_thick : Nat → Entry Try.prog := nth (Entry.no Try.f0) [E_stack_materialOf]
noncomputable def B_stack_thick (n : Nat) (x0 : List (ByteArray × (Int × (Int × (Int × Unit))))) (x1 : List (ByteArray × (ByteArray × Unit))) : Option (((Int × Unit) × (Unit × (Unit × Unit)))) :=
  loopN (fun rec1 => fun
  | ((v1aa, (v1aba, ())), ()) =>
    (bif decide ((v1aba < ((x1.length : Nat) : Int))) then
      (bif inB v1aba x1.length then
        rec1 ((wrapI .i64 (v1aa + (((S_matP x0 (((x1.getD v1aba.toNat ((strOf []), ((strOf []), ()))).2).1)).2).2).1), (wrapI .i64 (v1aba + 1), ())), ())
      else
        none)
    else
      some ((v1aa, ()), ((), ((), ())))))
  n ((0, (0, ())), ())
theorem B_stack_thick_eq (n : Nat) (x0 : List (ByteArray × (Int × (Int × (Int × Unit))))) (x1 : List (ByteArray × (ByteArray × Unit))) : bodyE ty T_stack_thick n I_stack_thick (x0, (x1, ())) = B_stack_thick n x0 x1 := by kernel_rfl

end Go.Proofs.Ytimaiganehbglaa
namespace Go.Proofs.Ytimaiganehbglaa
open Go Go.VM
theorem ok_stack_thick (x0 : List Mat) (x1 : List Lay) (hok : OkA I_stack_thick.args (x0, x1, ())) : ∃ n, bodyE ty T_stack_thick n I_stack_thick (x0, x1, ()) = some ((S_thkP x0 x1, ()), ((), (), ())) := ⟨x1.length + 1, by
  have hl : x1.length ≤ maxLen := hok.2.1.1
  rw [B_stack_thick_eq]
  unfold B_stack_thick S_thkP
  exact loop_fold (l := x1) (fun i (s : Int) => ((s, (i, ())), ())) (fun _ _ => True) (fun l _ n => wrapI .i64 (n + (S_matP x0 l.2.1).2.2.1)) (fun s => some ((s, ()), ((), (), ()))) (fun i h s _ => ⟨trivial, fun rec => by
    simp only [lt_nat h, inB_nat h, getD_lt h, succ64 h hl, cond_true]⟩) (fun s _ rec => by simp only [lt_self, cond_false]) (Nat.lt_succ_self _) (s := 0) trivial⟩
noncomputable def E_stack_thick : Entry Try.prog := Entry.of tok T_stack_thick I_stack_thick it_stack_thick (fun (x0, x1, ()) => some ((S_thkP x0 x1, ()), ((), (), ()))) (fun (x0, x1, ()) r hok h => by cases h; exact ok_stack_thick x0 x1 hok)

end Go.Proofs.Ytimaiganehbglaa
namespace Go.Proofs.Ytimaiganehbglaa
open Go Go.VM
/-! ### etchhouse.stack.Bow -/
noncomputable def I_stack_Bow : Inst := ⟨24, Try.f24, .two (.reg []) (.two (.two (.reg [(2, 0)]) (.two (.reg []) (.two (.two (.reg []) (.leaf)) (.leaf)))) (.two (.reg [(2, 1)]) (.two (.two (.reg []) (.one (.loop ⟨[(8, .pv i), (9, .pv i), (25, .pv i)], [], [0, 7, 23, 24], []⟩ (.two (.reg []) (.two (.two (.leaf) (.leaf)) (.two (.one (.two (.reg []) (.two (.reg [(3, 2)]) (.two (.reg []) (.reg []))))) (.reg []))))))) (.two (.reg []) (.leaf))))), (.cons (.pv (.sl (.pair .str (.pair i (.pair i (.pair i .unit)))))) (.cons (.pv (.sl (.pair .str (.pair .str .unit)))) .nil)), (.cons .flat i (.cons .flat i .nil))⟩
theorem it_stack_Bow : InTab Try.prog I_stack_Bow := ⟨Try.func24, by kernel_rfl, rfl⟩
noncomputable def T_stack_Bow : Nat → Entry Try.prog := nth (Entry.no Try.f0) [E_stack_CheckStack, E_stack_thick, E_stack_materialOf]
noncomputable def B_stack_Bow (n : Nat) (x0 : List (ByteArray × (Int × (Int × (Int × Unit))))) (x1 : List (ByteArray × (ByteArray × Unit))) : Option (((Int × (Int × Unit)) × (Unit × (Unit × Unit)))) :=
  (bif (!(decide ((S_chkS x0 x1 = 0)))) then
    some ((0, (S_chkS x0 x1, ())), ((), ((), ())))
  else
    loopN (fun rec1 => fun
    | ((v1aa, (v1aba, (v1abba, ()))), ()) =>
      (bif decide ((v1abba < ((x1.length : Nat) : Int))) then
        (bif inB v1abba x1.length then
          rec1 ((wrapI .i64 (v1aa + (((S_matP x0 (((x1.getD v1abba.toNat ((strOf []), ((strOf []), ()))).2).1)).2).2).1), (wrapI .i64 (v1aba + wrapI .i64 (wrapI .i64 ((((S_matP x0 (((x1.getD v1abba.toNat ((strOf []), ((strOf []), ()))).2).1)).2).2).1 * ((((S_matP x0 (((x1.getD v1abba.toNat ((strOf []), ((strOf []), ()))).2).1)).2).2).2).1) * wrapI .i64 (wrapI .i64 (wrapI .i64 (2 * v1aa) + (((S_matP x0 (((x1.getD v1abba.toNat ((strOf []), ((strOf []), ()))).2).1)).2).2).1) - S_thkP x0 x1))), (wrapI .i64 (v1abba + 1), ()))), ())
        else
          none)
      else
        some ((v1aba, (0, ())), ((), ((), ())))))
    n ((0, (0, (0, ()))), ()))
theorem B_stack_Bow_eq (n : Nat) (x0 : List (ByteArray × (Int × (Int × (Int × Unit))))) (x1 : List (ByteArray × (ByteArray × Unit))) : bodyE ty T_stack_Bow n I_stack_Bow (x0, (x1, ())) = B_stack_Bow n x0 x1 := by kernel_rfl

end Go.Proofs.Ytimaiganehbglaa
namespace Go.Proofs.Ytimaiganehbglaa
open Go Go.VM
theorem ok_stack_Bow (x0 : List Mat) (x1 : List Lay) (hok : OkA I_stack_Bow.args (x0, x1, ())) : ∃ n, bodyE ty T_stack_Bow n I_stack_Bow (x0, x1, ()) = some ((S_Bow x0 x1, S_chkS x0 x1, ()), ((), (), ())) := ⟨x1.length + 1, by
  have hl : x1.length ≤ maxLen := hok.2.1.1
  rw [B_stack_Bow_eq]
  unfold B_stack_Bow S_Bow
  cases hs : decide (S_chkS x0 x1 = 0) with
  | false => rfl
  | true =>
    have hs := of_decide_eq_true hs
    simp only [Bool.not_true, cond_false, cond_true]
    simp only [(matP_eq (chkS_M hs) _).1, thkP_eq (chkS_M hs)]
    rw [hs]
    exact loop_fold (l := x1) (fun i (t : Int × Int) => ((t.1, (t.2, (i, ()))), ())) (fun _ _ => True) (bowF x0 (S_thkR x0 x1)) (fun t => some ((t.2, 0, ()), ((), (), ()))) (fun i h t _ => ⟨trivial, fun rec => by
      simp only [lt_nat h, inB_nat h, getD_lt h, succ64 h hl, cond_true, bowF]⟩) (fun t _ rec => by simp only [lt_self, cond_false]) (Nat.lt_succ_self _) (s := (0, 0)) trivial⟩
noncomputable def E_stack_Bow : Entry Try.prog := Entry.of tok T_stack_Bow I_stack_Bow it_stack_Bow (fun (x0, x1, ()) => some ((S_Bow x0 x1, S_chkS x0 x1, ()), ((), (), ()))) (fun (x0, x1, ()) r hok h => by cases h; exact ok_stack_Bow x0 x1 hok)

end Go.Proofs.Ytimaiganehbglaa
namespace Go.Proofs.Ytimaiganehbglaa
open Go Go.VM
/-! ### etchhouse.etchhouseref4.thickness -/
noncomputable def I_etchhouseref4_thickness : Inst := ⟨34, Try.f34, .two (.reg []) (.two (.reg []) (.two (.two (.reg []) (.one (.loop ⟨[(5, .pv i), (10, .pv i)], [], [0, 8, 9], []⟩ (.two (.reg []) (.two (.two (.leaf) (.leaf)) (.two (.one (.two (.reg []) (.reg [(4, 0)]))) (.reg []))))))) (.two (.reg []) (.leaf)))), (.cons (.pv (.sl (.pair .str (.pair i (.pair i (.pair i .unit)))))) (.cons (.pv (.sl (.pair .str (.pair .str .unit)))) .nil)), (.cons .flat i .nil)⟩
theorem it_etchhouseref4_thickness : InTab Try.prog I_etchhouseref4_thickness := ⟨Try.func34, by kernel_rfl, rfl⟩
noncomputable def T_etchhouseref4_thickness : Nat → Entry Try.prog := nth (Entry.no Try.f0) [E_etchhouseref4_materialOf]
noncomputable def B_etchhouseref4_thickness (n : Nat) (x0 : List (ByteArray × (Int × (Int × (Int × Unit))))) (x1 : List (ByteArray × (ByteArray × Unit))) : Option (((Int × Unit) × (Unit × (Unit × Unit)))) :=
  loopN (fun rec1 => fun
  | ((v1aa, (v1aba, ())), ()) =>
    (bif decide ((v1aba < ((x1.length : Nat) : Int))) then
      (bif inB v1aba x1.length then
        rec1 ((wrapI .i64 (v1aa + (((S_matR x0 (((x1.getD v1aba.toNat ((strOf []), ((strOf []), ()))).2).1)).2).2).1), (wrapI .i64 (v1aba + 1), ())), ())
      else
        none)
    else
      some ((v1aa, ()), ((), ((), ())))))
  n ((0, (0, ())), ())
theorem B_etchhouseref4_thickness_eq (n : Nat) (x0 : List (ByteArray × (Int × (Int × (Int × Unit))))) (x1 : List (ByteArray × (ByteArray × Unit))) : bodyE ty T_etchhouseref4_thickness n I_etchhouseref4_thickness (x0, (x1, ())) = B_etchhouseref4_thickness n x0 x1 := by kernel_rfl

end Go.Proofs.Ytimaiganehbglaa
namespace Go.Proofs.Ytimaiganehbglaa
open Go Go.VM
theorem ok_etchhouseref4_thickness (x0 : List Mat) (x1 : List Lay) (hok : OkA I_etchhouseref4_thickness.args (x0, x1, ())) : ∃ n, bodyE ty T_etchhouseref4_thickness n I_etchhouseref4_thickness (x0, x1, ()) = some ((S_thkR x0 x1, ()), ((), (), ())) := ⟨x1.length + 1, by
  have hl : x1.length ≤ maxLen := hok.2.1.1
  rw [B_etchhouseref4_thickness_eq]
  unfold B_etchhouseref4_thickness S_thkR
  exact loop_fold (l := x1) (fun i (s : Int) => ((s, (i, ())), ())) (fun _ _ => True) (fun l _ n => wrapI .i64 (n + (S_matR x0 l.2.1).2.2.1)) (fun s => some ((s, ()), ((), (), ()))) (fun i h s _ => ⟨trivial, fun rec => by
    simp only [lt_nat h, inB_nat h, getD_lt h, succ64 h hl, cond_true]⟩) (fun s _ rec => by simp only [lt_self, cond_false]) (Nat.lt_succ_self _) (s := 0) trivial⟩
noncomputable def E_etchhouseref4_thickness : Entry Try.prog := Entry.of tok T_etchhouseref4_thickness I_etchhouseref4_thickness it_etchhouseref4_thickness (fun (x0, x1, ()) => some ((S_thkR x0 x1, ()), ((), (), ()))) (fun (x0, x1, ()) r hok h => by cases h; exact ok_etchhouseref4_thickness x0 x1 hok)

end Go.Proofs.Ytimaiganehbglaa
namespace Go.Proofs.Ytimaiganehbglaa
open Go Go.VM
/-! ### etchhouse.etchhouseref4.Bow -/
noncomputable def I_etchhouseref4_Bow : Inst := ⟨25, Try.f25, .two (.reg []) (.two (.two (.reg [(2, 0)]) (.two (.reg []) (.two (.two (.reg []) (.leaf)) (.leaf)))) (.two (.reg [(2, 1)]) (.two (.two (.reg []) (.one (.loop ⟨[(8, .pv i), (9, .pv i), (24, .pv i)], [], [0, 7, 22, 23], []⟩ (.two (.reg []) (.two (.two (.leaf) (.leaf)) (.two (.one (.two (.reg []) (.two (.reg [(3, 2)]) (.two (.reg []) (.reg []))))) (.reg []))))))) (.two (.reg []) (.leaf))))), (.cons (.pv (.sl (.pair .str (.pair i (.pair i (.pair i .unit)))))) (.cons (.pv (.sl (.pair .str (.pair .str .unit)))) .nil)), (.cons .flat i (.cons .flat i .nil))⟩
theorem it_etchhouseref4_Bow : InTab Try.prog I_etchhouseref4_Bow := ⟨Try.func25, by kernel_rfl, rfl⟩
noncomputable def T_etchhouseref4_Bow : Nat → Entry Try.prog := nth (Entry.no Try.f0) [E_etchhouseref4_CheckStack, E_etchhouseref4_thickness, E_etchhouseref4_materialOf]
noncomputable def B_etchhouseref4_Bow (n : Nat) (x0 : List (ByteArray × (Int × (Int × (Int × Unit))))) (x1 : List (ByteArray × (ByteArray × Unit))) : Option (((Int × (Int × Unit)) × (Unit × (Unit × Unit)))) :=
  (bif (!(decide ((S_chkS x0 x1 = 0)))) then
    some ((0, (S_chkS x0 x1, ())), ((), ((), ())))
  else
    loopN (fun rec1 => fun
    | ((v1aa, (v1aba, (v1abba, ()))), ()) =>
      (bif decide ((v1abba < ((x1.length : Nat) : Int))) then
        (bif inB v1abba x1.length then
          rec1 ((wrapI .i64 (v1aa + (((S_matR x0 (((x1.getD v1abba.toNat ((strOf []), ((strOf []), ()))).2).1)).2).2).1), (wrapI .i64 (v1aba + wrapI .i64 (wrapI .i64 ((((S_matR x0 (((x1.getD v1abba.toNat ((strOf []), ((strOf []), ()))).2).1)).2).2).1 * ((((S_matR x0 (((x1.getD v1abba.toNat ((strOf []), ((strOf []), ()))).2).1)).2).2).2).1) * wrapI .i64 (wrapI .i64 (wrapI .i64 (2 * v1aa) + (((S_matR x0 (((x1.getD v1abba.toNat ((strOf []), ((strOf []), ()))).2).1)).2).2).1) - S_thkR x0 x1))), (wrapI .i64 (v1abba + 1), ()))), ())
        else
          none)
      else
        some ((v1aba, (0, ())), ((), ((), ())))))
    n ((0, (0, (0, ()))), ()))
theorem B_etchhouseref4_Bow_eq (n : Nat) (x0 : List (ByteArray × (Int × (Int × (Int × Unit))))) (x1 : List (ByteArray × (ByteArray × Unit))) : bodyE ty T_etchhouseref4_Bow n I_etchhouseref4_Bow (x0, (x1, ())) = B_etchhouseref4_Bow n x0 x1 := by kernel_rfl

end Go.Proofs.Ytimaiganehbglaa
namespace Go.Proofs.Ytimaiganehbglaa
open Go Go.VM
theorem ok_etchhouseref4_Bow (x0 : List Mat) (x1 : List Lay) (hok : OkA I_etchhouseref4_Bow.args (x0, x1, ())) : ∃ n, bodyE ty T_etchhouseref4_Bow n I_etchhouseref4_Bow (x0, x1, ()) = some ((S_Bow x0 x1, S_chkS x0 x1, ()), ((), (), ())) := ⟨x1.length + 1, by
  have hl : x1.length ≤ maxLen := hok.2.1.1
  rw [B_etchhouseref4_Bow_eq]
  unfold B_etchhouseref4_Bow S_Bow
  cases hs : decide (S_chkS x0 x1 = 0) with
  | false => rfl
  | true =>
    have hs := of_decide_eq_true hs
    simp only [Bool.not_true, cond_false, cond_true]
    rw [hs]
    exact loop_fold (l := x1) (fun i (t : Int × Int) => ((t.1, (t.2, (i, ()))), ())) (fun _ _ => True) (bowF x0 (S_thkR x0 x1)) (fun t => some ((t.2, 0, ()), ((), (), ()))) (fun i h t _ => ⟨trivial, fun rec => by
      simp only [lt_nat h, inB_nat h, getD_lt h, succ64 h hl, cond_true, bowF]⟩) (fun t _ rec => by simp only [lt_self, cond_false]) (Nat.lt_succ_self _) (s := (0, 0)) trivial⟩
noncomputable def E_etchhouseref4_Bow : Entry Try.prog := Entry.of tok T_etchhouseref4_Bow I_etchhouseref4_Bow it_etchhouseref4_Bow (fun (x0, x1, ()) => some ((S_Bow x0 x1, S_chkS x0 x1, ()), ((), (), ()))) (fun (x0, x1, ()) r hok h => by cases h; exact ok_etchhouseref4_Bow x0 x1 hok)

end Go.Proofs.Ytimaiganehbglaa
namespace Go.Proofs.Ytimaiganehbglaa
open Go Go.VM
/-! ### etchhouse.stack.Thickness -/
noncomputable def I_stack_Thickness : Inst := ⟨9, Try.f9, .two (.reg []) (.two (.two (.reg [(2, 0)]) (.two (.reg []) (.two (.two (.reg []) (.leaf)) (.leaf)))) (.two (.reg [(2, 1)]) (.leaf))), (.cons (.pv (.sl (.pair .str (.pair i (.pair i (.pair i .unit)))))) (.cons (.pv (.sl (.pair .str (.pair .str .unit)))) .nil)), (.cons .flat i (.cons .flat i .nil))⟩
theorem it_stack_Thickness : InTab Try.prog I_stack_Thickness := ⟨Try.func9, by kernel_rfl, rfl⟩
noncomputable def T_stack_Thickness : Nat → Entry Try.prog := nth (Entry.no Try.f0) [E_stack_CheckStack, E_stack_thick]
noncomputable def B_stack_Thickness (x0 : List (ByteArray × (Int × (Int × (Int × Unit))))) (x1 : List (ByteArray × (ByteArray × Unit))) : Option (((Int × (Int × Unit)) × (Unit × (Unit × Unit)))) :=
  (bif (!(decide ((S_chkS x0 x1 = 0)))) then
    some ((0, (S_chkS x0 x1, ())), ((), ((), ())))
  else
    some ((S_thkP x0 x1, (0, ())), ((), ((), ()))))
theorem B_stack_Thickness_eq (n : Nat) (x0 : List (ByteArray × (Int × (Int × (Int × Unit))))) (x1 : List (ByteArray × (ByteArray × Unit))) : bodyE ty T_stack_Thickness n I_stack_Thickness (x0, (x1, ())) = B_stack_Thickness x0 x1 := by kernel_rfl

end Go.Proofs.Ytimaiganehbglaa
namespace Go.Proofs.Ytimaiganehbglaa
open Go Go.VM
theorem ok_stack_Thickness (x0 : List Mat) (x1 : List Lay) (hok : OkA I_stack_Thickness.args (x0, x1, ())) : ∃ n, bodyE ty T_stack_Thickness n I_stack_Thickness (x0, x1, ()) = some ((S_Thick x0 x1, S_chkS x0 x1, ()), ((), (), ())) := ⟨0, by
  rw [B_stack_Thickness_eq]
  unfold B_stack_Thickness S_Thick
  cases h : decide (S_chkS x0 x1 = 0) with
  | false => rfl
  | true =>
    have h := of_decide_eq_true h
    rw [h, thkP_eq (chkS_M h)]; rfl⟩
noncomputable def E_stack_Thickness : Entry Try.prog := Entry.of tok T_stack_Thickness I_stack_Thickness it_stack_Thickness (fun (x0, x1, ()) => some ((S_Thick x0 x1, S_chkS x0 x1, ()), ((), (), ()))) (fun (x0, x1, ()) r hok h => by cases h; exact ok_stack_Thickness x0 x1 hok)

end Go.Proofs.Ytimaiganehbglaa
namespace Go.Proofs.Ytimaiganehbglaa
open Go Go.VM
/-! ### etchhouse.etchhouselaw4.awake -/
noncomputable def I_etchhouselaw4_awake : Inst := ⟨15, Try.f15, .two (.reg []) (.two (.reg [(7, 0)]) (.two (.reg []) (.leaf))), .nil, (.cons .flat .bool .nil)⟩
theorem it_etchhouselaw4_awake : InTab Try.prog I_etchhouselaw4_awake := ⟨Try.func15, by kernel_rfl, rfl⟩
noncomputable def T_etchhouselaw4_awake : Nat → Entry Try.prog := nth (Entry.no Try.f0) [E_stack_Thickness]
noncomputable def B_etchhouselaw4_awake  : Option (((Bool × Unit) × Unit)) :=
  (bif decide ((S_chkS ([((strOf [99]), (1, (2, (0, ())))), ((strOf [103]), (3, (3, (0, ()))))]) ([((strOf [97]), ((strOf [99]), ())), ((strOf []), ((strOf [103]), ())), ((strOf [98]), ((strOf [99]), ()))]) = 0)) then
    some ((decide ((S_Thick ([((strOf [99]), (1, (2, (0, ())))), ((strOf [103]), (3, (3, (0, ()))))]) ([((strOf [97]), ((strOf [99]), ())), ((strOf []), ((strOf [103]), ())), ((strOf [98]), ((strOf [99]), ()))]) = 7)), ()), ())
  else
    some ((false, ()), ()))
theorem B_etchhouselaw4_awake_eq (n : Nat)  : bodyE ty T_etchhouselaw4_awake n I_etchhouselaw4_awake () = B_etchhouselaw4_awake  := by kernel_rfl

end Go.Proofs.Ytimaiganehbglaa
namespace Go.Proofs.Ytimaiganehbglaa
open Go Go.VM
theorem ok_etchhouselaw4_awake (hok : OkA I_etchhouselaw4_awake.args ()) : ∃ n, bodyE ty T_etchhouselaw4_awake n I_etchhouselaw4_awake () = some ((true, ()), ()) := ⟨0, by rw [B_etchhouselaw4_awake_eq]; unfold B_etchhouselaw4_awake; kernel_rfl⟩
noncomputable def E_etchhouselaw4_awake : Entry Try.prog := Entry.of tok T_etchhouselaw4_awake I_etchhouselaw4_awake it_etchhouselaw4_awake (fun () => some ((true, ()), ())) (fun () r hok h => by cases h; exact ok_etchhouselaw4_awake  hok)

end Go.Proofs.Ytimaiganehbglaa
namespace Go.Proofs.Ytimaiganehbglaa
open Go Go.VM
/-! ### etchhouse.etchhouseref4.OwnMirror -/
noncomputable def I_etchhouseref4_OwnMirror : Inst := ⟨26, Try.f26, .two (.reg []) (.two (.two (.reg []) (.one (.loop ⟨[(6, .pv i)], [], [0, 5], []⟩ (.two (.reg []) (.two (.two (.leaf) (.leaf)) (.two (.one (.two (.reg []) (.two (.draw [] [0, 1, 2, 3, 4, 5, 6, 7, 8, 9, 10, 11, 12, 13, 14] []) (.two (.two (.reg []) (.leaf)) (.leaf))))) (.reg []))))))) (.two (.reg []) (.leaf))), (.cons (.pv (.sl (.pair .str (.pair .str .unit)))) .nil), (.cons .flat .bool .nil)⟩
theorem it_etchhouseref4_OwnMirror : InTab Try.prog I_etchhouseref4_OwnMirror := ⟨Try.func26, by kernel_rfl, rfl⟩
noncomputable def T_etchhouseref4_OwnMirror : Nat → Entry Try.prog := nth (Entry.no Try.f0) []
noncomputable def B_etchhouseref4_OwnMirror (n : Nat) (x0 : List (ByteArray × (ByteArray × Unit))) : Option (((Bool × Unit) × (Unit × Unit))) :=
  loopN (fun rec1 => fun
  | ((v1aa, ()), ()) =>
    (bif decide ((v1aa < ((x0.length : Nat) : Int))) then
      (bif inB v1aa x0.length then
        (bif inB (wrapI .i64 (wrapI .i64 (((x0.length : Nat) : Int) - 1) - v1aa)) x0.length then
          (bif (!(decide ((ByteArray.toList (((x0.getD v1aa.toNat ((strOf []), ((strOf []), ()))).2).1) = ByteArray.toList (((x0.getD ((wrapI .i64 (wrapI .i64 (((x0.length : Nat) : Int) - 1) - v1aa)).toNat) ((strOf []), ((strOf []), ()))).2).1))))) then
            some ((false, ()), ((), ()))
          else
            rec1 ((wrapI .i64 (v1aa + 1), ()), ()))
        else
          none)
      else
        none)
    else
      some ((true, ()), ((), ()))))
  n ((0, ()), ())
theorem B_etchhouseref4_OwnMirror_eq (n : Nat) (x0 : List (ByteArray × (ByteArray × Unit))) : bodyE ty T_etchhouseref4_OwnMirror n I_etchhouseref4_OwnMirror (x0, ()) = B_etchhouseref4_OwnMirror n x0 := by kernel_rfl

end Go.Proofs.Ytimaiganehbglaa
namespace Go.Proofs.Ytimaiganehbglaa
open Go Go.VM
theorem ok_etchhouseref4_OwnMirror (x0 : List Lay) (hok : OkA I_etchhouseref4_OwnMirror.args (x0, ())) : ∃ n, bodyE ty T_etchhouseref4_OwnMirror n I_etchhouseref4_OwnMirror (x0, ()) = some ((S_own x0, ()), ((), ())) := ⟨x0.length + 1, by
  have hl : x0.length ≤ maxLen := hok.1.1
  have hl' : x0.length ≤ 9223372036854775807 := Nat.le_trans hl (by decide)
  rw [B_etchhouseref4_OwnMirror_eq]
  unfold B_etchhouseref4_OwnMirror S_own
  refine (loop_list (l := x0) (fun i (_ : Unit) => ((i, ()), ())) (fun a i _ => bif decide (ownC x0 a i = 0) then .inl () else .inr (some ((false, ()), ((), ())))) (fun _ => some ((true, ()), ((), ()))) (fun i h s rec => ?_) (fun s rec => by simp only [lt_self, cond_false]) (Nat.lt_succ_self _) ()).trans ?_
  · have e : wrapI .i64 (wrapI .i64 (((x0.length : Nat) : Int) - 1) - (i : Int)) = ((x0.length - 1 - i : Nat) : Int) := by rw [wrap64 (n := _ - 1) (by omega) (by omega), wrap64 (by omega) (by omega)]; omega
    simp only [lt_nat h, inB_nat h, getD_at h, succ64 h hl, cond_true, str_dec, e, inB_nat (show x0.length - 1 - i < x0.length by omega), Int.toNat_natCast]
    change (bif !decide (x0[i].2.1 = (x0.getD (x0.length - 1 - i) lay0).2.1) then _ else _) = _
    unfold ownC
    cases decide (x0[i].2.1 = (x0.getD (x0.length - 1 - i) lay0).2.1) <;> rfl
  · rw [first_go (f := ownC x0) (R := fun _ => some ((false, ()), ((), ())))]
    cases decide (firstC (ownC x0) x0 0 = 0) <;> rfl⟩
noncomputable def E_etchhouseref4_OwnMirror : Entry Try.prog := Entry.of tok T_etchhouseref4_OwnMirror I_etchhouseref4_OwnMirror it_etchhouseref4_OwnMirror (fun (x0, ()) => some ((S_own x0, ()), ((), ()))) (fun (x0, ()) r hok h => by cases h; exact ok_etchhouseref4_OwnMirror x0 hok)

end Go.Proofs.Ytimaiganehbglaa
namespace Go.Proofs.Ytimaiganehbglaa
open Go Go.VM
/-! ### etchhouse.etchhouselaw4.StackBowMatchesSpec -/
noncomputable def I_etchhouselaw4_StackBowMatchesSpec : Inst := ⟨6, Try.f6, .two (.reg []) (.two (.reg [(2, 0)]) (.two (.reg [(2, 1)]) (.two (.two (.reg [(6, 2)]) (.two (.two (.reg []) (.leaf)) (.leaf))) (.two (.reg [(2, 3)]) (.two (.reg [(2, 4)]) (.two (.two (.reg [(9, 5)]) (.two (.two (.reg []) (.leaf)) (.leaf))) (.two (.two (.reg []) (.two (.two (.reg []) (.leaf)) (.leaf))) (.two (.reg [(2, 3)]) (.two (.reg [(10, 6)]) (.leaf)))))))))), (.cons (.pv (.sl (.pair .str (.pair i (.pair i (.pair i .unit)))))) (.cons (.pv (.sl (.pair .str (.pair .str .unit)))) .nil)), (.cons .flat .bool .nil)⟩
theorem it_etchhouselaw4_StackBowMatchesSpec : InTab Try.prog I_etchhouselaw4_StackBowMatchesSpec := ⟨Try.func6, by kernel_rfl, rfl⟩
noncomputable def T_etchhouselaw4_StackBowMatchesSpec : Nat → Entry Try.prog := nth (Entry.no Try.f0) [E_stack_Mirrored, E_etchhouseref4_Mirrored, E_slices_Equal_etchhouse_api_Layer_etchhouse_api_Layer, E_stack_Bow, E_etchhouseref4_Bow, E_etchhouselaw4_awake, E_etchhouseref4_OwnMirror]
noncomputable def B_etchhouselaw4_StackBowMatchesSpec (x0 : List (ByteArray × (Int × (Int × (Int × Unit))))) (x1 : List (ByteArray × (ByteArray × Unit))) : Option (((Bool × Unit) × (Unit × (Unit × Unit)))) :=
  (bif (!(decide ((S_chkS x0 x1 = S_chkS x0 x1)))) then
    some ((false, ()), ((), ((), ())))
  else
    (bif (!(decide ((S_mir_stack_Mirrored x0 x1 = S_mir_etchhouseref4_Mirrored x0 x1)))) then
      some ((false, ()), ((), ((), ())))
    else
      (bif (!(decide ((S_chkS x0 x1 = S_chkS x0 x1)))) then
        some ((false, ()), ((), ((), ())))
      else
        (bif (!(decide ((S_Bow x0 x1 = S_Bow x0 x1)))) then
          some ((false, ()), ((), ((), ())))
        else
          (bif (!(decide ((S_chkS x0 x1 = 0)))) then
            some ((true, ()), ((), ((), ())))
          else
            (bif decide ((S_chkS x0 (S_mir_stack_Mirrored x0 x1) = 0)) then
              (bif decide ((S_Bow x0 (S_mir_stack_Mirrored x0 x1) = wrapI .i64 (0 - S_Bow x0 x1))) then
                (bif (!(S_own x1)) then
                  some ((true, ()), ((), ((), ())))
                else
                  some ((decide ((S_Bow x0 x1 = 0)), ()), ((), ((), ()))))
              else
                some ((false, ()), ((), ((), ()))))
            else
              some ((false, ()), ((), ((), ())))))))))
theorem B_etchhouselaw4_StackBowMatchesSpec_eq (n : Nat) (x0 : List (ByteArray × (Int × (Int × (Int × Unit))))) (x1 : List (ByteArray × (ByteArray × Unit))) : bodyE ty T_etchhouselaw4_StackBowMatchesSpec n I_etchhouselaw4_StackBowMatchesSpec (x0, (x1, ())) = B_etchhouselaw4_StackBowMatchesSpec x0 x1 := by kernel_rfl

end Go.Proofs.Ytimaiganehbglaa
namespace Go.Proofs.Ytimaiganehbglaa
open Go Go.VM
noncomputable def E_etchhouselaw4_StackBowMatchesSpec : Entry Try.prog := Entry.of tok T_etchhouselaw4_StackBowMatchesSpec I_etchhouselaw4_StackBowMatchesSpec it_etchhouselaw4_StackBowMatchesSpec (fun x => B_etchhouselaw4_StackBowMatchesSpec x.1 x.2.1) (fun (a0, a1, ()) r _ h => ⟨0, (B_etchhouselaw4_StackBowMatchesSpec_eq 0 a0 a1).trans h⟩)

end Go.Proofs.Ytimaiganehbglaa
namespace Go.Proofs.Ytimaiganehbglaa
open Go Go.VM
namespace LStackBowMatchesSpec
theorem law (x0 : List Mat) (x1 : List Lay) : B_etchhouselaw4_StackBowMatchesSpec x0 x1 = some ((true, ()), ((), ((), ()))) := by
  unfold B_etchhouselaw4_StackBowMatchesSpec
  have e1 : decide (S_chkS x0 x1 = S_chkS x0 x1) = true := decide_eq_true rfl
  have e2 : decide (S_mir_stack_Mirrored x0 x1 = S_mir_etchhouseref4_Mirrored x0 x1) = true := decide_eq_true rfl
  have e3 : decide (S_Bow x0 x1 = S_Bow x0 x1) = true := decide_eq_true rfl
  rw [e1, e2, e3]
  cases hs : decide (S_chkS x0 x1 = 0) with
  | false => rfl
  | true =>
    have hm : S_mir_stack_Mirrored x0 x1 = x1.reverse := by unfold S_mir_stack_Mirrored; rw [hs]; rfl
    have hs := of_decide_eq_true hs
    obtain ⟨b1, b2⟩ := bow_mirror hs
    obtain ⟨_, b3, b4⟩ := bow_eq hs
    rw [hm, mirror_ok hs, b1, wrap64 (by omega) (by omega)]
    have e4 : decide (-S_Bow x0 x1 = 0 - S_Bow x0 x1) = true := decide_eq_true (by omega)
    rw [e4]
    cases ho : S_own x1 with
    | false => rfl
    | true => rw [b2 ho]; rfl

end LStackBowMatchesSpec
end Go.Proofs.Ytimaiganehbglaa
