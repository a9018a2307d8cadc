/- What the functions that DrillNoBitIsWorn reaches compute, part 1; and that the law answers true, for all arguments that a row reads. -/
import Derived.Test.YtmhhodnackfhmaaProg
import Derived.Test.YtmhhodnackfhmaaVmDrillNoBitIsWorn4
namespace Go.Proofs.Ytmhhodnackfhmaa
open Go Go.VM
abbrev i : Ty := .int .i64
def tab : List (Nat × Ty) := [(22, (.sl (.pair .str (.pair i (.pair i (.pair i .unit)))))), (33, (.pair .str (.pair i (.pair i (.pair i .unit))))), (9, .str), (3, i), (23, (.sl (.pair .str (.pair (.sl (.pair (.pair i (.pair i .unit)) (.pair i (.pair i (.pair .bool .unit))))) .unit)))), (31, (.pair .str (.pair (.sl (.pair (.pair i (.pair i .unit)) (.pair i (.pair i (.pair .bool .unit))))) .unit))), (29, (.sl (.pair (.pair i (.pair i .unit)) (.pair i (.pair i (.pair .bool .unit)))))), (58, (.pair (.pair i (.pair i .unit)) (.pair i (.pair i (.pair .bool .unit))))), (49, (.pair i (.pair i .unit))), (4, .bool), (24, (.sl (.pair .str (.pair i (.pair i .unit))))), (35, (.pair .str (.pair i (.pair i .unit)))), (25, i), (5, (.int .u8)), (100, (.int .u64)), (66, (.sl (.pair i (.pair i .unit)))), (37, (.sl i)), (68, (.sl (.sl (.pair (.pair i (.pair i .unit)) (.pair i (.pair i (.pair .bool .unit)))))))]
def ty : Types := mkTypes tab [58, 35]
theorem tok : TyOK Try.prog ty := tyok_of_check (by kernel_rfl)
end Go.Proofs.Ytmhhodnackfhmaa
namespace Go.Proofs.Ytmhhodnackfhmaa
open Go Go.VM
noncomputable def I_bytealg_IndexByteString : Inst := ⟨95, Try.f95, .leaf, pvs [.str, .int .u8], .cons .flat (.int .i64) .nil⟩
noncomputable def E_bytealg_IndexByteString : Entry Try.prog := Entry.ext I_bytealg_IndexByteString idxF (ext_idx Try.func95 (by kernel_rfl) rfl (by kernel_rfl) (by kernel_rfl))

end Go.Proofs.Ytmhhodnackfhmaa
namespace Go.Proofs.Ytmhhodnackfhmaa
open Go Go.VM
/-! ### internal.stringslite.IndexByte -/
noncomputable def I_stringslite_IndexByte : Inst := ⟨87, Try.f87, .two (.reg []) (.two (.reg [(2, 0)]) (.leaf)), (.cons (.pv .str) (.cons (.pv (.int .u8)) .nil)), (.cons .flat i .nil)⟩
theorem it_stringslite_IndexByte : InTab Try.prog I_stringslite_IndexByte := ⟨Try.func87, by kernel_rfl, rfl⟩
noncomputable def T_stringslite_IndexByte : Nat → Entry Try.prog := nth (Entry.no Try.f0) [E_bytealg_IndexByteString]
noncomputable def B_stringslite_IndexByte (x0 : ByteArray) (x1 : Int) : Option (((Int × Unit) × (Unit × (Unit × Unit)))) :=
  some ((S_idx x0 x1, ()), ((), ((), ())))
theorem B_stringslite_IndexByte_eq (n : Nat) (x0 : ByteArray) (x1 : Int) : bodyE ty T_stringslite_IndexByte n I_stringslite_IndexByte (x0, (x1, ())) = B_stringslite_IndexByte x0 x1 := by kernel_rfl

end Go.Proofs.Ytmhhodnackfhmaa
namespace Go.Proofs.Ytmhhodnackfhmaa
open Go Go.VM
def S_stringslite_IndexByte (x0 : ByteArray) (x1 : Int) : Int := S_idx x0 x1
theorem ok_stringslite_IndexByte (x0 : ByteArray) (x1 : Int) (hok : OkA I_stringslite_IndexByte.args (x0, x1, ())) : ∃ n, bodyE ty T_stringslite_IndexByte n I_stringslite_IndexByte (x0, x1, ()) = some (((S_stringslite_IndexByte x0 x1), ()), ((), (), ())) := ⟨0, by rw [B_stringslite_IndexByte_eq]; rfl⟩
noncomputable def E_stringslite_IndexByte : Entry Try.prog := Entry.of tok T_stringslite_IndexByte I_stringslite_IndexByte it_stringslite_IndexByte (fun (x0, x1, ()) => some (((S_stringslite_IndexByte x0 x1), ()), ((), (), ()))) (fun (x0, x1, ()) r hok h => by cases h; exact ok_stringslite_IndexByte x0 x1 hok)

end Go.Proofs.Ytmhhodnackfhmaa
namespace Go.Proofs.Ytmhhodnackfhmaa
open Go Go.VM
/-! ### strings.IndexByte -/
noncomputable def I_strings_IndexByte : Inst := ⟨69, Try.f69, .two (.reg []) (.two (.reg [(2, 0)]) (.leaf)), (.cons (.pv .str) (.cons (.pv (.int .u8)) .nil)), (.cons .flat i .nil)⟩
theorem it_strings_IndexByte : InTab Try.prog I_strings_IndexByte := ⟨Try.func69, by kernel_rfl, rfl⟩
noncomputable def T_strings_IndexByte : Nat → Entry Try.prog := nth (Entry.no Try.f0) [E_stringslite_IndexByte]
noncomputable def B_strings_IndexByte (x0 : ByteArray) (x1 : Int) : Option (((Int × Unit) × (Unit × (Unit × Unit)))) :=
  some ((S_stringslite_IndexByte x0 x1, ()), ((), ((), ())))
theorem B_strings_IndexByte_eq (n : Nat) (x0 : ByteArray) (x1 : Int) : bodyE ty T_strings_IndexByte n I_strings_IndexByte (x0, (x1, ())) = B_strings_IndexByte x0 x1 := by kernel_rfl

end Go.Proofs.Ytmhhodnackfhmaa
namespace Go.Proofs.Ytmhhodnackfhmaa
open Go Go.VM
def S_strings_IndexByte (x0 : ByteArray) (x1 : Int) : Int := S_stringslite_IndexByte x0 x1
theorem ok_strings_IndexByte (x0 : ByteArray) (x1 : Int) (hok : OkA I_strings_IndexByte.args (x0, x1, ())) : ∃ n, bodyE ty T_strings_IndexByte n I_strings_IndexByte (x0, x1, ()) = some (((S_strings_IndexByte x0 x1), ()), ((), (), ())) := ⟨0, by rw [B_strings_IndexByte_eq]; rfl⟩
noncomputable def E_strings_IndexByte : Entry Try.prog := Entry.of tok T_strings_IndexByte I_strings_IndexByte it_strings_IndexByte (fun (x0, x1, ()) => some (((S_strings_IndexByte x0 x1), ()), ((), (), ()))) (fun (x0, x1, ()) r hok h => by cases h; exact ok_strings_IndexByte x0 x1 hok)

end Go.Proofs.Ytmhhodnackfhmaa
namespace Go.Proofs.Ytmhhodnackfhmaa
open Go Go.VM
/-! ### etchhouse.netlist.IsWord -/
noncomputable def I_netlist_IsWord : Inst := ⟨54, Try.f54, .two (.reg []) (.two (.two (.reg []) (.one (.loop ⟨[(7, .pv i)], [], [0, 6], []⟩ (.two (.reg []) (.two (.two (.leaf) (.leaf)) (.two (.one (.two (.reg []) (.two (.reg []) (.two (.reg [(24, 0)]) (.two (.two (.reg []) (.leaf)) (.leaf)))))) (.reg []))))))) (.two (.reg []) (.leaf))), (.cons (.pv .str) .nil), (.cons .flat .bool .nil)⟩
theorem it_netlist_IsWord : InTab Try.prog I_netlist_IsWord := ⟨Try.func54, by kernel_rfl, rfl⟩
noncomputable def T_netlist_IsWord : Nat → Entry Try.prog := nth (Entry.no Try.f0) [E_strings_IndexByte]
noncomputable def B_netlist_IsWord (n : Nat) (x0 : ByteArray) : Option (((Bool × Unit) × (Unit × Unit))) :=
  loopN (fun rec1 => fun
  | ((v1aa, ()), ()) =>
    (bif decide ((v1aa < ((ByteArray.size x0 : Nat) : Int))) then
      (bif inB v1aa (ByteArray.size x0) then
        (bif decide ((strAt x0 v1aa.toNat < 65)) then
          (bif decide ((strAt x0 v1aa.toNat < 97)) then
            (bif decide ((strAt x0 v1aa.toNat < 48)) then
              (bif decide ((S_strings_IndexByte (strOf [95, 43, 45, 35]) (strAt x0 v1aa.toNat) < 0)) then
                some ((false, ()), ((), ()))
              else
                rec1 ((wrapI .i64 (v1aa + 1), ()), ()))
            else
              (bif decide ((57 < strAt x0 v1aa.toNat)) then
                (bif decide ((S_strings_IndexByte (strOf [95, 43, 45, 35]) (strAt x0 v1aa.toNat) < 0)) then
                  some ((false, ()), ((), ()))
                else
                  rec1 ((wrapI .i64 (v1aa + 1), ()), ()))
              else
                rec1 ((wrapI .i64 (v1aa + 1), ()), ())))
          else
            (bif decide ((122 < strAt x0 v1aa.toNat)) then
              (bif decide ((strAt x0 v1aa.toNat < 48)) then
                (bif decide ((S_strings_IndexByte (strOf [95, 43, 45, 35]) (strAt x0 v1aa.toNat) < 0)) then
                  some ((false, ()), ((), ()))
                else
                  rec1 ((wrapI .i64 (v1aa + 1), ()), ()))
              else
                (bif decide ((57 < strAt x0 v1aa.toNat)) then
                  (bif decide ((S_strings_IndexByte (strOf [95, 43, 45, 35]) (strAt x0 v1aa.toNat) < 0)) then
                    some ((false, ()), ((), ()))
                  else
                    rec1 ((wrapI .i64 (v1aa + 1), ()), ()))
                else
                  rec1 ((wrapI .i64 (v1aa + 1), ()), ())))
            else
              rec1 ((wrapI .i64 (v1aa + 1), ()), ())))
        else
          (bif decide ((90 < strAt x0 v1aa.toNat)) then
            (bif decide ((strAt x0 v1aa.toNat < 97)) then
              (bif decide ((strAt x0 v1aa.toNat < 48)) then
                (bif decide ((S_strings_IndexByte (strOf [95, 43, 45, 35]) (strAt x0 v1aa.toNat) < 0)) then
                  some ((false, ()), ((), ()))
                else
                  rec1 ((wrapI .i64 (v1aa + 1), ()), ()))
              else
                (bif decide ((57 < strAt x0 v1aa.toNat)) then
                  (bif decide ((S_strings_IndexByte (strOf [95, 43, 45, 35]) (strAt x0 v1aa.toNat) < 0)) then
                    some ((false, ()), ((), ()))
                  else
                    rec1 ((wrapI .i64 (v1aa + 1), ()), ()))
                else
                  rec1 ((wrapI .i64 (v1aa + 1), ()), ())))
            else
              (bif decide ((122 < strAt x0 v1aa.toNat)) then
                (bif decide ((strAt x0 v1aa.toNat < 48)) then
                  (bif decide ((S_strings_IndexByte (strOf [95, 43, 45, 35]) (strAt x0 v1aa.toNat) < 0)) then
                    some ((false, ()), ((), ()))
                  else
                    rec1 ((wrapI .i64 (v1aa + 1), ()), ()))
                else
                  (bif decide ((57 < strAt x0 v1aa.toNat)) then
                    (bif decide ((S_strings_IndexByte (strOf [95, 43, 45, 35]) (strAt x0 v1aa.toNat) < 0)) then
                      some ((false, ()), ((), ()))
                    else
                      rec1 ((wrapI .i64 (v1aa + 1), ()), ()))
                  else
                    rec1 ((wrapI .i64 (v1aa + 1), ()), ())))
              else
                rec1 ((wrapI .i64 (v1aa + 1), ()), ())))
          else
            rec1 ((wrapI .i64 (v1aa + 1), ()), ())))
      else
        none)
    else
      (bif decide ((1 ≤ ((ByteArray.size x0 : Nat) : Int))) then
        some ((decide ((((ByteArray.size x0 : Nat) : Int) ≤ 40)), ()), ((), ()))
      else
        some ((false, ()), ((), ())))))
  n ((0, ()), ())
theorem B_netlist_IsWord_eq (n : Nat) (x0 : ByteArray) : bodyE ty T_netlist_IsWord n I_netlist_IsWord (x0, ()) = B_netlist_IsWord n x0 := by kernel_rfl

end Go.Proofs.Ytmhhodnackfhmaa
namespace Go.Proofs.Ytmhhodnackfhmaa
open Go Go.VM
theorem ok_netlist_IsWord (x0 : ByteArray) (hok : OkA I_netlist_IsWord.args (x0, ())) : ∃ n, bodyE ty T_netlist_IsWord n I_netlist_IsWord (x0, ()) = some ((S_word x0, ()), ((), ())) := ⟨ByteArray.size x0 + 1, by
  have hl : ByteArray.size x0 ≤ maxLen := hok.1
  rw [B_netlist_IsWord_eq]
  unfold B_netlist_IsWord S_word
  refine (loop_list (l := x0.data.toList) (fun i (_ : Unit) => ((i, ()), ())) (fun a i _ => bif okB (a.toNat : Int) then .inl () else .inr (some ((false, ()), ((), ())))) (fun _ => some ((decide (1 ≤ ((ByteArray.size x0 : Nat) : Int)) && decide (((ByteArray.size x0 : Nat) : Int) ≤ 40), ()), ((), ()))) (fun i h s rec => ?_) (fun s rec => ?_) (Nat.lt_succ_self _) ()).trans ?_
  · have h' : i < ByteArray.size x0 := h
    simp only [lt_nat h', inB_nat h', strAt_nat h, succ64 h' hl, cond_true]
    generalize (x0.data.toList[i].toNat : Int) = c
    unfold okB
    simp only [show ∀ a b, S_strings_IndexByte a b = S_idx a b from fun _ _ => rfl]
    cases decide (c < 65) <;> cases decide (90 < c) <;> cases decide (c < 97) <;> cases decide (122 < c) <;> cases decide (c < 48) <;> cases decide (57 < c) <;> cases decide (S_idx (strOf [95, 43, 45, 35]) c < 0) <;> rfl
  · rw [← size_list]
    simp only [lt_self, cond_false]
    cases decide (1 ≤ ((ByteArray.size x0 : Nat) : Int)) <;> rfl
  · rw [all_go]
    cases x0.data.toList.all fun b => okB (b.toNat : Int) <;> rfl⟩
noncomputable def E_netlist_IsWord : Entry Try.prog := Entry.of tok T_netlist_IsWord I_netlist_IsWord it_netlist_IsWord (fun (x0, ()) => some ((S_word x0, ()), ((), ()))) (fun (x0, ()) r hok h => by cases h; exact ok_netlist_IsWord x0 hok)

end Go.Proofs.Ytmhhodnackfhmaa
namespace Go.Proofs.Ytmhhodnackfhmaa
open Go Go.VM
/-! ### etchhouse.drill.within -/
noncomputable def I_drill_within : Inst := ⟨36, Try.f36, .two (.reg []) (.two (.reg []) (.leaf)), (.cons (.pv i) (.cons (.pv i) (.cons (.pv i) .nil))), (.cons .flat .bool .nil)⟩
theorem it_drill_within : InTab Try.prog I_drill_within := ⟨Try.func36, by kernel_rfl, rfl⟩
noncomputable def T_drill_within : Nat → Entry Try.prog := nth (Entry.no Try.f0) []
noncomputable def B_drill_within (x0 : Int) (x1 : Int) (x2 : Int) : Option (((Bool × Unit) × (Unit × (Unit × (Unit × Unit))))) :=
  (bif decide ((x1 ≤ x0)) then
    some ((decide ((x0 ≤ x2)), ()), ((), ((), ((), ()))))
  else
    some ((false, ()), ((), ((), ((), ())))))
theorem B_drill_within_eq (n : Nat) (x0 : Int) (x1 : Int) (x2 : Int) : bodyE ty T_drill_within n I_drill_within (x0, (x1, (x2, ()))) = B_drill_within x0 x1 x2 := by kernel_rfl

end Go.Proofs.Ytmhhodnackfhmaa
namespace Go.Proofs.Ytmhhodnackfhmaa
open Go Go.VM
theorem ok_drill_within (x0 x1 x2 : Int) (hok : OkA I_drill_within.args (x0, x1, x2, ())) : ∃ n, bodyE ty T_drill_within n I_drill_within (x0, x1, x2, ()) = some ((S_within x0 x1 x2, ()), ((), (), (), ())) := ⟨0, by
  rw [B_drill_within_eq]; unfold B_drill_within S_within; cases decide (x1 ≤ x0) <;> rfl⟩
noncomputable def E_drill_within : Entry Try.prog := Entry.of tok T_drill_within I_drill_within it_drill_within (fun (x0, x1, x2, ()) => some ((S_within x0 x1 x2, ()), ((), (), (), ()))) (fun (x0, x1, x2, ()) r hok h => by cases h; exact ok_drill_within x0 x1 x2 hok)

end Go.Proofs.Ytmhhodnackfhmaa
namespace Go.Proofs.Ytmhhodnackfhmaa
open Go Go.VM
/-! ### etchhouse.drill.CheckTools -/
noncomputable def I_drill_CheckTools : Inst := ⟨32, Try.f32, .two (.reg []) (.two (.two (.reg []) (.two (.two (.reg []) (.leaf)) (.leaf))) (.two (.two (.reg []) (.one (.loop ⟨[(10, .pv i)], [], [0, 8, 9], []⟩ (.two (.reg []) (.two (.two (.leaf) (.leaf)) (.two (.one (.two (.reg []) (.one (.two (.reg [(2, 0)]) (.two (.two (.reg []) (.leaf)) (.two (.reg [(2, 1), (7, 1), (13, 1)]) (.two (.two (.reg []) (.leaf)) (.two (.draw [] [0, 1, 2, 3, 4, 5, 6, 7, 8, 9, 10, 11, 12, 13] [4]) (.two (.two (.reg []) (.leaf)) (.leaf)))))))))) (.reg []))))))) (.two (.reg []) (.leaf)))), (.cons (.pv (.sl (.pair .str (.pair i (.pair i (.pair i .unit)))))) .nil), (.cons .flat i .nil)⟩
theorem it_drill_CheckTools : InTab Try.prog I_drill_CheckTools := ⟨Try.func32, by kernel_rfl, rfl⟩
noncomputable def T_drill_CheckTools : Nat → Entry Try.prog := nth (Entry.no Try.f0) [E_netlist_IsWord, E_drill_within]
noncomputable def B_drill_CheckTools (n : Nat) (x0 : List (ByteArray × (Int × (Int × (Int × Unit))))) : Option (((Int × Unit) × (Unit × Unit))) :=
  (bif decide ((100 < ((x0.length : Nat) : Int))) then
    some ((2, ()), ((), ()))
  else
    loopN (fun rec1 => fun
    | ((v1aa, ()), ()) =>
      (bif decide ((v1aa < ((x0.length : Nat) : Int))) then
        (bif inB v1aa x0.length then
          (bif (!(S_word ((x0.getD v1aa.toNat ((strOf []), (0, (0, (0, ()))))).1))) then
            some ((5, ()), ((), ()))
          else
            (bif (!(S_within (((x0.getD v1aa.toNat ((strOf []), (0, (0, (0, ()))))).2).1) 1 10000)) then
              some ((1, ()), ((), ()))
            else
              (bif (!(S_within ((((x0.getD v1aa.toNat ((strOf []), (0, (0, (0, ()))))).2).2).1) 1 2000)) then
                some ((1, ()), ((), ()))
              else
                (bif (!(S_within (((((x0.getD v1aa.toNat ((strOf []), (0, (0, (0, ()))))).2).2).2).1) 0 1000)) then
                  some ((1, ()), ((), ()))
                else
                  (bif decide ((0 < v1aa)) then
                    (bif inB (wrapI .i64 (v1aa - 1)) x0.length then
                      (bif (Op.bytesLess (ByteArray.toList ((x0.getD v1aa.toNat ((strOf []), (0, (0, (0, ()))))).1)) (ByteArray.toList ((x0.getD ((wrapI .i64 (v1aa - 1)).toNat) ((strOf []), (0, (0, (0, ()))))).1)) || decide ((ByteArray.toList ((x0.getD v1aa.toNat ((strOf []), (0, (0, (0, ()))))).1) = ByteArray.toList ((x0.getD ((wrapI .i64 (v1aa - 1)).toNat) ((strOf []), (0, (0, (0, ()))))).1)))) then
                        some ((8, ()), ((), ()))
                      else
                        rec1 ((wrapI .i64 (v1aa + 1), ()), ()))
                    else
                      none)
                  else
                    rec1 ((wrapI .i64 (v1aa + 1), ()), ()))))))
        else
          none)
      else
        some ((0, ()), ((), ()))))
    n ((0, ()), ()))
theorem B_drill_CheckTools_eq (n : Nat) (x0 : List (ByteArray × (Int × (Int × (Int × Unit))))) : bodyE ty T_drill_CheckTools n I_drill_CheckTools (x0, ()) = B_drill_CheckTools n x0 := by kernel_rfl

end Go.Proofs.Ytmhhodnackfhmaa
namespace Go.Proofs.Ytmhhodnackfhmaa
open Go Go.VM
theorem ok_drill_CheckTools (x0 : List Mat) (hok : OkA I_drill_CheckTools.args (x0, ())) : ∃ n, bodyE ty T_drill_CheckTools n I_drill_CheckTools (x0, ()) = some ((S_chkT x0, ()), ((), ())) := ⟨x0.length + 1, by
  have hl : x0.length ≤ maxLen := hok.1.1
  rw [B_drill_CheckTools_eq]
  unfold B_drill_CheckTools
  exact chkT_loop (R := fun a => some ((a, ()), ((), ()))) hl (Nat.lt_succ_self _)⟩
noncomputable def E_drill_CheckTools : Entry Try.prog := Entry.of tok T_drill_CheckTools I_drill_CheckTools it_drill_CheckTools (fun (x0, ()) => some ((S_chkT x0, ()), ((), ()))) (fun (x0, ()) r hok h => by cases h; exact ok_drill_CheckTools x0 hok)

end Go.Proofs.Ytmhhodnackfhmaa
namespace Go.Proofs.Ytmhhodnackfhmaa
open Go Go.VM
noncomputable def I_bytealg_abigen_runtime_cmpstring : Inst := ⟨89, Try.f89, .leaf, pvs [.str, .str], .cons .flat (.int .i64) .nil⟩
noncomputable def E_bytealg_abigen_runtime_cmpstring : Entry Try.prog := Entry.ext I_bytealg_abigen_runtime_cmpstring cmpF (ext_cmp Try.func89 (by kernel_rfl) rfl (by kernel_rfl) (by kernel_rfl))

end Go.Proofs.Ytmhhodnackfhmaa
namespace Go.Proofs.Ytmhhodnackfhmaa
open Go Go.VM
/-! ### internal.bytealg.CompareString -/
noncomputable def I_bytealg_CompareString : Inst := ⟨75, Try.f75, .two (.reg []) (.two (.reg [(2, 0)]) (.leaf)), (.cons (.pv .str) (.cons (.pv .str) .nil)), (.cons .flat i .nil)⟩
theorem it_bytealg_CompareString : InTab Try.prog I_bytealg_CompareString := ⟨Try.func75, by kernel_rfl, rfl⟩
noncomputable def T_bytealg_CompareString : Nat → Entry Try.prog := nth (Entry.no Try.f0) [E_bytealg_abigen_runtime_cmpstring]
noncomputable def B_bytealg_CompareString (x0 : ByteArray) (x1 : ByteArray) : Option (((Int × Unit) × (Unit × (Unit × Unit)))) :=
  some ((S_cmps x0 x1, ()), ((), ((), ())))
theorem B_bytealg_CompareString_eq (n : Nat) (x0 : ByteArray) (x1 : ByteArray) : bodyE ty T_bytealg_CompareString n I_bytealg_CompareString (x0, (x1, ())) = B_bytealg_CompareString x0 x1 := by kernel_rfl

end Go.Proofs.Ytmhhodnackfhmaa
namespace Go.Proofs.Ytmhhodnackfhmaa
open Go Go.VM
def S_bytealg_CompareString (x0 : ByteArray) (x1 : ByteArray) : Int := S_cmps x0 x1
theorem ok_bytealg_CompareString (x0 : ByteArray) (x1 : ByteArray) (hok : OkA I_bytealg_CompareString.args (x0, x1, ())) : ∃ n, bodyE ty T_bytealg_CompareString n I_bytealg_CompareString (x0, x1, ()) = some (((S_bytealg_CompareString x0 x1), ()), ((), (), ())) := ⟨0, by rw [B_bytealg_CompareString_eq]; rfl⟩
noncomputable def E_bytealg_CompareString : Entry Try.prog := Entry.of tok T_bytealg_CompareString I_bytealg_CompareString it_bytealg_CompareString (fun (x0, x1, ()) => some (((S_bytealg_CompareString x0 x1), ()), ((), (), ()))) (fun (x0, x1, ()) r hok h => by cases h; exact ok_bytealg_CompareString x0 x1 hok)

end Go.Proofs.Ytmhhodnackfhmaa
namespace Go.Proofs.Ytmhhodnackfhmaa
open Go Go.VM
/-! ### strings.Compare -/
noncomputable def I_strings_Compare : Inst := ⟨65, Try.f65, .two (.reg []) (.two (.reg [(2, 0)]) (.leaf)), (.cons (.pv .str) (.cons (.pv .str) .nil)), (.cons .flat i .nil)⟩
theorem it_strings_Compare : InTab Try.prog I_strings_Compare := ⟨Try.func65, by kernel_rfl, rfl⟩
noncomputable def T_strings_Compare : Nat → Entry Try.prog := nth (Entry.no Try.f0) [E_bytealg_CompareString]
noncomputable def B_strings_Compare (x0 : ByteArray) (x1 : ByteArray) : Option (((Int × Unit) × (Unit × (Unit × Unit)))) :=
  some ((S_bytealg_CompareString x0 x1, ()), ((), ((), ())))
theorem B_strings_Compare_eq (n : Nat) (x0 : ByteArray) (x1 : ByteArray) : bodyE ty T_strings_Compare n I_strings_Compare (x0, (x1, ())) = B_strings_Compare x0 x1 := by kernel_rfl

end Go.Proofs.Ytmhhodnackfhmaa
namespace Go.Proofs.Ytmhhodnackfhmaa
open Go Go.VM
def S_strings_Compare (x0 : ByteArray) (x1 : ByteArray) : Int := S_bytealg_CompareString x0 x1
theorem ok_strings_Compare (x0 : ByteArray) (x1 : ByteArray) (hok : OkA I_strings_Compare.args (x0, x1, ())) : ∃ n, bodyE ty T_strings_Compare n I_strings_Compare (x0, x1, ()) = some (((S_strings_Compare x0 x1), ()), ((), (), ())) := ⟨0, by rw [B_strings_Compare_eq]; rfl⟩
noncomputable def E_strings_Compare : Entry Try.prog := Entry.of tok T_strings_Compare I_strings_Compare it_strings_Compare (fun (x0, x1, ()) => some (((S_strings_Compare x0 x1), ()), ((), (), ()))) (fun (x0, x1, ()) r hok h => by cases h; exact ok_strings_Compare x0 x1 hok)

end Go.Proofs.Ytmhhodnackfhmaa
namespace Go.Proofs.Ytmhhodnackfhmaa
open Go Go.VM
/-! ### etchhouse.drill.toolAt$1 -/
noncomputable def I_drill_toolAt_1 : Inst := ⟨64, Try.f64, .two (.reg []) (.two (.reg [(3, 0)]) (.leaf)), (.cons (.pv (.pair .str (.pair i (.pair i (.pair i .unit))))) (.cons (.pv .str) .nil)), (.cons .flat i .nil)⟩
theorem it_drill_toolAt_1 : InTab Try.prog I_drill_toolAt_1 := ⟨Try.func64, by kernel_rfl, rfl⟩
noncomputable def T_drill_toolAt_1 : Nat → Entry Try.prog := nth (Entry.no Try.f0) [E_strings_Compare]
noncomputable def B_drill_toolAt_1 (x0 : (ByteArray × (Int × (Int × (Int × Unit))))) (x1 : ByteArray) : Option (((Int × Unit) × (Unit × (Unit × Unit)))) :=
  some ((S_strings_Compare x0.1 x1, ()), ((), ((), ())))
theorem B_drill_toolAt_1_eq (n : Nat) (x0 : (ByteArray × (Int × (Int × (Int × Unit))))) (x1 : ByteArray) : bodyE ty T_drill_toolAt_1 n I_drill_toolAt_1 (x0, (x1, ())) = B_drill_toolAt_1 x0 x1 := by kernel_rfl

end Go.Proofs.Ytmhhodnackfhmaa
namespace Go.Proofs.Ytmhhodnackfhmaa
open Go Go.VM
def S_drill_toolAt_1 (x0 : (ByteArray × (Int × (Int × (Int × Unit))))) (x1 : ByteArray) : Int := S_strings_Compare x0.1 x1
theorem ok_drill_toolAt_1 (x0 : (ByteArray × (Int × (Int × (Int × Unit))))) (x1 : ByteArray) (hok : OkA I_drill_toolAt_1.args (x0, x1, ())) : ∃ n, bodyE ty T_drill_toolAt_1 n I_drill_toolAt_1 (x0, x1, ()) = some (((S_drill_toolAt_1 x0 x1), ()), ((), (), ())) := ⟨0, by rw [B_drill_toolAt_1_eq]; rfl⟩
noncomputable def E_drill_toolAt_1 : Entry Try.prog := Entry.of tok T_drill_toolAt_1 I_drill_toolAt_1 it_drill_toolAt_1 (fun (x0, x1, ()) => some (((S_drill_toolAt_1 x0 x1), ()), ((), (), ()))) (fun (x0, x1, ()) r hok h => by cases h; exact ok_drill_toolAt_1 x0 x1 hok)

end Go.Proofs.Ytmhhodnackfhmaa
namespace Go.Proofs.Ytmhhodnackfhmaa
open Go Go.VM
/-! ### slices.BinarySearchFunc[[]etchhouse.api.Bit,etchhouse.api.Bit,string] -/
noncomputable def I_slices_BinarySearchFunc_etchhouse_api_Bit_etchhouse_api_Bit_string_of_drill_toolAt_1 : Inst := ⟨63, Try.f63, .two (.reg []) (.two (.reg []) (.two (.reg []) (.two (.one (.loop ⟨[(9, .pv i), (10, .pv i)], [], [0, 1, 2, 8], []⟩ (.two (.two (.reg []) (.two (.leaf) (.leaf))) (.one (.two (.reg []) (.two (.reg [(6, 0)]) (.two (.reg []) (.reg [])))))))) (.two (.reg [(11, 0)]) (.leaf))))), (.cons (.pv (.sl (.pair .str (.pair i (.pair i (.pair i .unit)))))) (.cons (.pv .str) (.cons (.fn 64 .nil) .nil))), (.cons .flat i (.cons .flat .bool .nil))⟩
theorem it_slices_BinarySearchFunc_etchhouse_api_Bit_etchhouse_api_Bit_string_of_drill_toolAt_1 : InTab Try.prog I_slices_BinarySearchFunc_etchhouse_api_Bit_etchhouse_api_Bit_string_of_drill_toolAt_1 := ⟨Try.func63, by kernel_rfl, rfl⟩
noncomputable def T_slices_BinarySearchFunc_etchhouse_api_Bit_etchhouse_api_Bit_string_of_drill_toolAt_1 : Nat → Entry Try.prog := nth (Entry.no Try.f0) [E_drill_toolAt_1]
noncomputable def B_slices_BinarySearchFunc_etchhouse_api_Bit_etchhouse_api_Bit_string_of_drill_toolAt_1 (n : Nat) (x0 : List (ByteArray × (Int × (Int × (Int × Unit))))) (x1 : ByteArray) (x2 : Unit) : Option (((Int × (Bool × Unit)) × (Unit × (Unit × (Unit × Unit))))) :=
  loopN (fun rec1 => fun
  | ((v1aa, (v1aba, ())), ()) =>
    (bif decide ((v1aa < v1aba)) then
      (bif inB (wrapI .i64 (Int.fdiv (wrapI .u64 (wrapI .i64 (v1aa + v1aba))) 2)) x0.length then
        (bif decide ((S_drill_toolAt_1 (x0.getD ((wrapI .i64 (Int.fdiv (wrapI .u64 (wrapI .i64 (v1aa + v1aba))) 2)).toNat) ((strOf []), (0, (0, (0, ()))))) x1 < 0)) then
          rec1 ((wrapI .i64 (wrapI .i64 (Int.fdiv (wrapI .u64 (wrapI .i64 (v1aa + v1aba))) 2) + 1), (v1aba, ())), ())
        else
          rec1 ((v1aa, (wrapI .i64 (Int.fdiv (wrapI .u64 (wrapI .i64 (v1aa + v1aba))) 2), ())), ()))
      else
        none)
    else
      (bif decide ((v1aa < ((x0.length : Nat) : Int))) then
        (bif inB v1aa x0.length then
          some ((v1aa, (decide ((S_drill_toolAt_1 (x0.getD v1aa.toNat ((strOf []), (0, (0, (0, ()))))) x1 = 0)), ())), ((), ((), ((), ()))))
        else
          none)
      else
        some ((v1aa, (false, ())), ((), ((), ((), ())))))))
  n ((0, (((x0.length : Nat) : Int), ())), ())
theorem B_slices_BinarySearchFunc_etchhouse_api_Bit_etchhouse_api_Bit_string_of_drill_toolAt_1_eq (n : Nat) (x0 : List (ByteArray × (Int × (Int × (Int × Unit))))) (x1 : ByteArray) (x2 : Unit) : bodyE ty T_slices_BinarySearchFunc_etchhouse_api_Bit_etchhouse_api_Bit_string_of_drill_toolAt_1 n I_slices_BinarySearchFunc_etchhouse_api_Bit_etchhouse_api_Bit_string_of_drill_toolAt_1 (x0, (x1, (x2, ()))) = B_slices_BinarySearchFunc_etchhouse_api_Bit_etchhouse_api_Bit_string_of_drill_toolAt_1 n x0 x1 x2 := by kernel_rfl

end Go.Proofs.Ytmhhodnackfhmaa
namespace Go.Proofs.Ytmhhodnackfhmaa
open Go Go.VM
def S_slices_BinarySearchFunc_etchhouse_api_Bit_etchhouse_api_Bit_string_of_drill_toolAt_1_i (x0 : List (ByteArray × (Int × (Int × (Int × Unit))))) (x1 : ByteArray) (x2 : Unit) : Int := ((bsI (fun a : (ByteArray × (Int × (Int × (Int × Unit)))) => S_drill_toolAt_1 a x1) x0 ((strOf []), (0, (0, (0, ())))) : Nat) : Int)
def S_slices_BinarySearchFunc_etchhouse_api_Bit_etchhouse_api_Bit_string_of_drill_toolAt_1_f (x0 : List (ByteArray × (Int × (Int × (Int × Unit))))) (x1 : ByteArray) (x2 : Unit) : Bool := bsF (fun a : (ByteArray × (Int × (Int × (Int × Unit)))) => S_drill_toolAt_1 a x1) x0 ((strOf []), (0, (0, (0, ()))))
theorem ok_slices_BinarySearchFunc_etchhouse_api_Bit_etchhouse_api_Bit_string_of_drill_toolAt_1 (x0 : List (ByteArray × (Int × (Int × (Int × Unit))))) (x1 : ByteArray) (x2 : Unit) (hok : OkA I_slices_BinarySearchFunc_etchhouse_api_Bit_etchhouse_api_Bit_string_of_drill_toolAt_1.args (x0, x1, x2, ())) : ∃ n, bodyE ty T_slices_BinarySearchFunc_etchhouse_api_Bit_etchhouse_api_Bit_string_of_drill_toolAt_1 n I_slices_BinarySearchFunc_etchhouse_api_Bit_etchhouse_api_Bit_string_of_drill_toolAt_1 (x0, x1, x2, ()) = some ((S_slices_BinarySearchFunc_etchhouse_api_Bit_etchhouse_api_Bit_string_of_drill_toolAt_1_i x0 x1 x2, S_slices_BinarySearchFunc_etchhouse_api_Bit_etchhouse_api_Bit_string_of_drill_toolAt_1_f x0 x1 x2, ()), ((), (), (), ())) := ⟨x0.length + 1, by
  have hl : x0.length ≤ maxLen := hok.1.1
  rw [B_slices_BinarySearchFunc_etchhouse_api_Bit_etchhouse_api_Bit_string_of_drill_toolAt_1_eq]
  unfold B_slices_BinarySearchFunc_etchhouse_api_Bit_etchhouse_api_Bit_string_of_drill_toolAt_1 S_slices_BinarySearchFunc_etchhouse_api_Bit_etchhouse_api_Bit_string_of_drill_toolAt_1_i S_slices_BinarySearchFunc_etchhouse_api_Bit_etchhouse_api_Bit_string_of_drill_toolAt_1_f
  exact bs_loop (fun a : (ByteArray × (Int × (Int × (Int × Unit)))) => S_drill_toolAt_1 a x1) (R := fun a b => ((a, b, ()), ((), (), (), ()))) hl (Nat.lt_succ_self _)⟩
noncomputable def E_slices_BinarySearchFunc_etchhouse_api_Bit_etchhouse_api_Bit_string_of_drill_toolAt_1 : Entry Try.prog := Entry.of tok T_slices_BinarySearchFunc_etchhouse_api_Bit_etchhouse_api_Bit_string_of_drill_toolAt_1 I_slices_BinarySearchFunc_etchhouse_api_Bit_etchhouse_api_Bit_string_of_drill_toolAt_1 it_slices_BinarySearchFunc_etchhouse_api_Bit_etchhouse_api_Bit_string_of_drill_toolAt_1 (fun (x0, x1, x2, ()) => some ((S_slices_BinarySearchFunc_etchhouse_api_Bit_etchhouse_api_Bit_string_of_drill_toolAt_1_i x0 x1 x2, S_slices_BinarySearchFunc_etchhouse_api_Bit_etchhouse_api_Bit_string_of_drill_toolAt_1_f x0 x1 x2, ()), ((), (), (), ()))) (fun (x0, x1, x2, ()) r hok h => by cases h; exact ok_slices_BinarySearchFunc_etchhouse_api_Bit_etchhouse_api_Bit_string_of_drill_toolAt_1 x0 x1 x2 hok)

end Go.Proofs.Ytmhhodnackfhmaa
namespace Go.Proofs.Ytmhhodnackfhmaa
open Go Go.VM
/-! ### etchhouse.drill.toolAt -/
noncomputable def I_drill_toolAt : Inst := ⟨45, Try.f45, .two (.reg []) (.two (.reg [(2, 0)]) (.two (.two (.reg []) (.two (.two (.reg []) (.leaf)) (.leaf))) (.two (.reg []) (.leaf)))), (.cons (.pv (.sl (.pair .str (.pair i (.pair i (.pair i .unit)))))) (.cons (.pv .str) .nil)), (.cons .flat (.pair .str (.pair i (.pair i (.pair i .unit)))) (.cons .flat .bool .nil))⟩
theorem it_drill_toolAt : InTab Try.prog I_drill_toolAt := ⟨Try.func45, by kernel_rfl, rfl⟩
noncomputable def T_drill_toolAt : Nat → Entry Try.prog := nth (Entry.no Try.f0) [E_slices_BinarySearchFunc_etchhouse_api_Bit_etchhouse_api_Bit_string_of_drill_toolAt_1]
noncomputable def B_drill_toolAt (x0 : List (ByteArray × (Int × (Int × (Int × Unit))))) (x1 : ByteArray) : Option ((((ByteArray × (Int × (Int × (Int × Unit)))) × (Bool × Unit)) × (Unit × (Unit × Unit)))) :=
  (bif (!(S_slices_BinarySearchFunc_etchhouse_api_Bit_etchhouse_api_Bit_string_of_drill_toolAt_1_f x0 x1 ())) then
    some ((((strOf []), (0, (0, (0, ())))), (false, ())), ((), ((), ())))
  else
    (bif inB (S_slices_BinarySearchFunc_etchhouse_api_Bit_etchhouse_api_Bit_string_of_drill_toolAt_1_i x0 x1 ()) x0.length then
      some ((x0.getD ((S_slices_BinarySearchFunc_etchhouse_api_Bit_etchhouse_api_Bit_string_of_drill_toolAt_1_i x0 x1 ()).toNat) ((strOf []), (0, (0, (0, ())))), (true, ())), ((), ((), ())))
    else
      none))
theorem B_drill_toolAt_eq (n : Nat) (x0 : List (ByteArray × (Int × (Int × (Int × Unit))))) (x1 : ByteArray) : bodyE ty T_drill_toolAt n I_drill_toolAt (x0, (x1, ())) = B_drill_toolAt x0 x1 := by kernel_rfl

end Go.Proofs.Ytmhhodnackfhmaa
namespace Go.Proofs.Ytmhhodnackfhmaa
open Go Go.VM
theorem ok_drill_toolAt (x0 : List Mat) (x1 : ByteArray) (hok : OkA I_drill_toolAt.args (x0, x1, ())) : ∃ n, bodyE ty T_drill_toolAt n I_drill_toolAt (x0, x1, ()) = some ((S_matP x0 x1, S_there x0 x1, ()), ((), (), ())) := ⟨0, by
  rw [B_drill_toolAt_eq]
  unfold B_drill_toolAt S_matP
  change (bif !S_there x0 x1 then _ else bif inB ((bsI (fun a : Mat => S_cmps a.1 x1) x0 mat0 : Nat) : Int) x0.length then _ else _) = _
  cases h : S_there x0 x1 with
  | false => rfl
  | true =>
    have hb : bsI (fun a : Mat => S_cmps a.1 x1) x0 mat0 < x0.length := by
      simp only [S_there, bsF, Bool.and_eq_true, decide_eq_true_eq] at h
      exact h.1
    rw [inB_nat hb]
    rfl⟩
noncomputable def E_drill_toolAt : Entry Try.prog := Entry.of tok T_drill_toolAt I_drill_toolAt it_drill_toolAt (fun (x0, x1, ()) => some ((S_matP x0 x1, S_there x0 x1, ()), ((), (), ()))) (fun (x0, x1, ()) r hok h => by cases h; exact ok_drill_toolAt x0 x1 hok)

end Go.Proofs.Ytmhhodnackfhmaa
namespace Go.Proofs.Ytmhhodnackfhmaa
open Go Go.VM
/-! ### etchhouse.drill.CheckJobs$1 -/
noncomputable def I_drill_CheckJobs_1_io : Inst := ⟨47, Try.f47, .two (.reg []) (.two (.reg []) (.leaf)), (.cons (.pv (.pair .str (.pair (.sl (.pair (.pair i (.pair i .unit)) (.pair i (.pair i (.pair .bool .unit))))) .unit))) (.cons (.io .flat (.pair .str (.pair (.sl (.pair (.pair i (.pair i .unit)) (.pair i (.pair i (.pair .bool .unit))))) .unit))) .nil)), (.cons .flat .bool .nil)⟩
theorem it_drill_CheckJobs_1_io : InTab Try.prog I_drill_CheckJobs_1_io := ⟨Try.func47, by kernel_rfl, rfl⟩
noncomputable def T_drill_CheckJobs_1_io : Nat → Entry Try.prog := nth (Entry.no Try.f0) []
noncomputable def B_drill_CheckJobs_1_io (x0 : (ByteArray × (List ((Int × (Int × Unit)) × (Int × (Int × (Bool × Unit)))) × Unit))) (x1 : (ByteArray × (List ((Int × (Int × Unit)) × (Int × (Int × (Bool × Unit)))) × Unit))) : Option (((Bool × Unit) × (Unit × ((ByteArray × (List ((Int × (Int × Unit)) × (Int × (Int × (Bool × Unit)))) × Unit)) × Unit)))) :=
  some ((decide ((ByteArray.toList x0.1 = ByteArray.toList x1.1)), ()), ((), (x1, ())))
theorem B_drill_CheckJobs_1_io_eq (n : Nat) (x0 : (ByteArray × (List ((Int × (Int × Unit)) × (Int × (Int × (Bool × Unit)))) × Unit))) (x1 : (ByteArray × (List ((Int × (Int × Unit)) × (Int × (Int × (Bool × Unit)))) × Unit))) : bodyE ty T_drill_CheckJobs_1_io n I_drill_CheckJobs_1_io (x0, (x1, ())) = B_drill_CheckJobs_1_io x0 x1 := by kernel_rfl

end Go.Proofs.Ytmhhodnackfhmaa
namespace Go.Proofs.Ytmhhodnackfhmaa
open Go Go.VM
noncomputable def E_drill_CheckJobs_1_io : Entry Try.prog := Entry.of tok T_drill_CheckJobs_1_io I_drill_CheckJobs_1_io it_drill_CheckJobs_1_io (fun x => B_drill_CheckJobs_1_io x.1 x.2.1) (fun (a0, a1, ()) r _ h => ⟨0, (B_drill_CheckJobs_1_io_eq 0 a0 a1).trans h⟩)

end Go.Proofs.Ytmhhodnackfhmaa
namespace Go.Proofs.Ytmhhodnackfhmaa
open Go Go.VM
/-! ### slices.IndexFunc[[]etchhouse.api.Job,etchhouse.api.Job] -/
noncomputable def I_slices_IndexFunc_etchhouse_api_Job_etchhouse_api_Job_of_drill_CheckJobs_1 : Inst := ⟨66, Try.f66, .two (.reg []) (.two (.two (.reg []) (.one (.loop ⟨[(8, .pv i)], [(1010, ⟨.flat, (.pair .str (.pair (.sl (.pair (.pair i (.pair i .unit)) (.pair i (.pair i (.pair .bool .unit))))) .unit)), true, true⟩)], [0, 1, 7], []⟩ (.two (.reg []) (.two (.two (.leaf) (.leaf)) (.two (.one (.two (.reg []) (.two (.reg [(5, 0)]) (.two (.two (.reg []) (.leaf)) (.leaf))))) (.reg []))))))) (.two (.reg []) (.leaf))), (.cons (.pv (.sl (.pair .str (.pair (.sl (.pair (.pair i (.pair i .unit)) (.pair i (.pair i (.pair .bool .unit))))) .unit)))) (.cons (.fn 47 (.cons (.io .flat (.pair .str (.pair (.sl (.pair (.pair i (.pair i .unit)) (.pair i (.pair i (.pair .bool .unit))))) .unit))) .nil)) .nil)), (.cons .flat i .nil)⟩
theorem it_slices_IndexFunc_etchhouse_api_Job_etchhouse_api_Job_of_drill_CheckJobs_1 : InTab Try.prog I_slices_IndexFunc_etchhouse_api_Job_etchhouse_api_Job_of_drill_CheckJobs_1 := ⟨Try.func66, by kernel_rfl, rfl⟩
noncomputable def T_slices_IndexFunc_etchhouse_api_Job_etchhouse_api_Job_of_drill_CheckJobs_1 : Nat → Entry Try.prog := nth (Entry.no Try.f0) [E_drill_CheckJobs_1_io]
noncomputable def B_slices_IndexFunc_etchhouse_api_Job_etchhouse_api_Job_of_drill_CheckJobs_1 (n : Nat) (x0 : List (ByteArray × (List ((Int × (Int × Unit)) × (Int × (Int × (Bool × Unit)))) × Unit))) (x1 : ((ByteArray × (List ((Int × (Int × Unit)) × (Int × (Int × (Bool × Unit)))) × Unit)) × Unit)) : Option (((Int × Unit) × (Unit × (((ByteArray × (List ((Int × (Int × Unit)) × (Int × (Int × (Bool × Unit)))) × Unit)) × Unit) × Unit)))) :=
  loopN (fun rec1 => fun
  | ((v1aa, ()), ((v1baa, (v1baba, ())), ())) =>
    (bif decide ((v1aa < ((x0.length : Nat) : Int))) then
      (bif inB v1aa x0.length then
        ((B_drill_CheckJobs_1_io (x0.getD v1aa.toNat ((strOf []), ([], ()))) (v1baa, (v1baba, ()))).bind fun ((r2aa, ()), ((), ((r2bbaa, (r2bbaba, ())), ()))) =>
        (bif r2aa then
          some ((v1aa, ()), ((), (((r2bbaa, (r2bbaba, ())), ()), ())))
        else
          rec1 ((wrapI .i64 (v1aa + 1), ()), ((r2bbaa, (r2bbaba, ())), ()))))
      else
        none)
    else
      some (((-1), ()), ((), (((v1baa, (v1baba, ())), ()), ())))))
  n ((0, ()), (x1.1, ()))
theorem B_slices_IndexFunc_etchhouse_api_Job_etchhouse_api_Job_of_drill_CheckJobs_1_eq (n : Nat) (x0 : List (ByteArray × (List ((Int × (Int × Unit)) × (Int × (Int × (Bool × Unit)))) × Unit))) (x1 : ((ByteArray × (List ((Int × (Int × Unit)) × (Int × (Int × (Bool × Unit)))) × Unit)) × Unit)) : bodyE ty T_slices_IndexFunc_etchhouse_api_Job_etchhouse_api_Job_of_drill_CheckJobs_1 n I_slices_IndexFunc_etchhouse_api_Job_etchhouse_api_Job_of_drill_CheckJobs_1 (x0, (x1, ())) = B_slices_IndexFunc_etchhouse_api_Job_etchhouse_api_Job_of_drill_CheckJobs_1 n x0 x1 := by kernel_rfl

end Go.Proofs.Ytmhhodnackfhmaa
namespace Go.Proofs.Ytmhhodnackfhmaa
open Go Go.VM
def S_jobI (l : List Job) (x : Job) : Int := S_find (fun y : Job => decide (y.1 = x.1)) l
theorem ok_slices_IndexFunc_etchhouse_api_Job_etchhouse_api_Job_of_drill_CheckJobs_1 (x0 : List Job) (x1_0 : Job) (hok : OkA I_slices_IndexFunc_etchhouse_api_Job_etchhouse_api_Job_of_drill_CheckJobs_1.args (x0, (x1_0, ()), ())) : ∃ n, bodyE ty T_slices_IndexFunc_etchhouse_api_Job_etchhouse_api_Job_of_drill_CheckJobs_1 n I_slices_IndexFunc_etchhouse_api_Job_etchhouse_api_Job_of_drill_CheckJobs_1 (x0, (x1_0, ()), ()) = some ((S_jobI x0 x1_0, ()), ((), (x1_0, ()), ())) := ⟨x0.length + 1, by
  have hl : x0.length ≤ maxLen := hok.1.1
  rw [B_slices_IndexFunc_etchhouse_api_Job_etchhouse_api_Job_of_drill_CheckJobs_1_eq]
  unfold B_slices_IndexFunc_etchhouse_api_Job_etchhouse_api_Job_of_drill_CheckJobs_1 S_jobI
  obtain ⟨q, hs, ⟨⟩⟩ := x1_0
  refine (loop_list (l := x0) (fun i (_ : Unit) => ((i, ()), ((q, (hs, ())), ()))) (fun a i _ => bif (fun y : Job => decide (y.1 = q)) a then .inr (some (((i : Int), ()), ((), ((q, (hs, ())), ()), ()))) else .inl ()) (fun _ => some ((-1, ()), ((), ((q, (hs, ())), ()), ()))) (fun i h s rec => ?_) (fun s rec => by simp only [lt_self, cond_false]) (Nat.lt_succ_self _) ()).trans (find_go (R := fun a => ((a, ()), ((), ((q, (hs, ())), ()), ()))) x0 0)
  unfold B_drill_CheckJobs_1_io
  simp only [lt_nat h, inB_nat h, getD_lt h, succ64 h hl, cond_true, str_dec]
  cases decide (x0[i].1 = q) <;> rfl⟩
noncomputable def E_slices_IndexFunc_etchhouse_api_Job_etchhouse_api_Job_of_drill_CheckJobs_1 : Entry Try.prog := Entry.of tok T_slices_IndexFunc_etchhouse_api_Job_etchhouse_api_Job_of_drill_CheckJobs_1 I_slices_IndexFunc_etchhouse_api_Job_etchhouse_api_Job_of_drill_CheckJobs_1 it_slices_IndexFunc_etchhouse_api_Job_etchhouse_api_Job_of_drill_CheckJobs_1 (fun (x0, (x1_0, ()), ()) => some ((S_jobI x0 x1_0, ()), ((), (x1_0, ()), ()))) (fun (x0, (x1_0, ()), ()) r hok h => by cases h; exact ok_slices_IndexFunc_etchhouse_api_Job_etchhouse_api_Job_of_drill_CheckJobs_1 x0 x1_0 hok)

end Go.Proofs.Ytmhhodnackfhmaa
namespace Go.Proofs.Ytmhhodnackfhmaa
open Go Go.VM
/-! ### slices.ContainsFunc[[]etchhouse.api.Job,etchhouse.api.Job] -/
noncomputable def I_slices_ContainsFunc_etchhouse_api_Job_etchhouse_api_Job_of_drill_CheckJobs_1 : Inst := ⟨46, Try.f46, .two (.reg []) (.two (.reg [(2, 0)]) (.leaf)), (.cons (.pv (.sl (.pair .str (.pair (.sl (.pair (.pair i (.pair i .unit)) (.pair i (.pair i (.pair .bool .unit))))) .unit)))) (.cons (.fn 47 (.cons (.io .flat (.pair .str (.pair (.sl (.pair (.pair i (.pair i .unit)) (.pair i (.pair i (.pair .bool .unit))))) .unit))) .nil)) .nil)), (.cons .flat .bool .nil)⟩
theorem it_slices_ContainsFunc_etchhouse_api_Job_etchhouse_api_Job_of_drill_CheckJobs_1 : InTab Try.prog I_slices_ContainsFunc_etchhouse_api_Job_etchhouse_api_Job_of_drill_CheckJobs_1 := ⟨Try.func46, by kernel_rfl, rfl⟩
noncomputable def T_slices_ContainsFunc_etchhouse_api_Job_etchhouse_api_Job_of_drill_CheckJobs_1 : Nat → Entry Try.prog := nth (Entry.no Try.f0) [E_slices_IndexFunc_etchhouse_api_Job_etchhouse_api_Job_of_drill_CheckJobs_1]
noncomputable def B_slices_ContainsFunc_etchhouse_api_Job_etchhouse_api_Job_of_drill_CheckJobs_1 (x0 : List (ByteArray × (List ((Int × (Int × Unit)) × (Int × (Int × (Bool × Unit)))) × Unit))) (x1 : ((ByteArray × (List ((Int × (Int × Unit)) × (Int × (Int × (Bool × Unit)))) × Unit)) × Unit)) : Option (((Bool × Unit) × (Unit × (((ByteArray × (List ((Int × (Int × Unit)) × (Int × (Int × (Bool × Unit)))) × Unit)) × Unit) × Unit)))) :=
  some ((decide ((0 ≤ S_jobI x0 x1.1)), ()), ((), ((x1.1, ()), ())))
theorem B_slices_ContainsFunc_etchhouse_api_Job_etchhouse_api_Job_of_drill_CheckJobs_1_eq (n : Nat) (x0 : List (ByteArray × (List ((Int × (Int × Unit)) × (Int × (Int × (Bool × Unit)))) × Unit))) (x1 : ((ByteArray × (List ((Int × (Int × Unit)) × (Int × (Int × (Bool × Unit)))) × Unit)) × Unit)) : bodyE ty T_slices_ContainsFunc_etchhouse_api_Job_etchhouse_api_Job_of_drill_CheckJobs_1 n I_slices_ContainsFunc_etchhouse_api_Job_etchhouse_api_Job_of_drill_CheckJobs_1 (x0, (x1, ())) = B_slices_ContainsFunc_etchhouse_api_Job_etchhouse_api_Job_of_drill_CheckJobs_1 x0 x1 := by kernel_rfl

end Go.Proofs.Ytmhhodnackfhmaa
namespace Go.Proofs.Ytmhhodnackfhmaa
open Go Go.VM
noncomputable def E_slices_ContainsFunc_etchhouse_api_Job_etchhouse_api_Job_of_drill_CheckJobs_1 : Entry Try.prog := Entry.of tok T_slices_ContainsFunc_etchhouse_api_Job_etchhouse_api_Job_of_drill_CheckJobs_1 I_slices_ContainsFunc_etchhouse_api_Job_etchhouse_api_Job_of_drill_CheckJobs_1 it_slices_ContainsFunc_etchhouse_api_Job_etchhouse_api_Job_of_drill_CheckJobs_1 (fun x => B_slices_ContainsFunc_etchhouse_api_Job_etchhouse_api_Job_of_drill_CheckJobs_1 x.1 x.2.1) (fun (a0, a1, ()) r _ h => ⟨0, (B_slices_ContainsFunc_etchhouse_api_Job_etchhouse_api_Job_of_drill_CheckJobs_1_eq 0 a0 a1).trans h⟩)

end Go.Proofs.Ytmhhodnackfhmaa
namespace Go.Proofs.Ytmhhodnackfhmaa
open Go Go.VM
/-! ### etchhouse.shape.within -/
noncomputable def I_shape_within : Inst := ⟨73, Try.f73, .two (.reg []) (.two (.reg []) (.leaf)), (.cons (.pv i) (.cons (.pv i) (.cons (.pv i) .nil))), (.cons .flat .bool .nil)⟩
theorem it_shape_within : InTab Try.prog I_shape_within := ⟨Try.func73, by kernel_rfl, rfl⟩
noncomputable def T_shape_within : Nat → Entry Try.prog := nth (Entry.no Try.f0) []
noncomputable def B_shape_within (x0 : Int) (x1 : Int) (x2 : Int) : Option (((Bool × Unit) × (Unit × (Unit × (Unit × Unit))))) :=
  (bif decide ((x1 ≤ x0)) then
    some ((decide ((x0 ≤ x2)), ()), ((), ((), ((), ()))))
  else
    some ((false, ()), ((), ((), ((), ())))))
theorem B_shape_within_eq (n : Nat) (x0 : Int) (x1 : Int) (x2 : Int) : bodyE ty T_shape_within n I_shape_within (x0, (x1, (x2, ()))) = B_shape_within x0 x1 x2 := by kernel_rfl

end Go.Proofs.Ytmhhodnackfhmaa
namespace Go.Proofs.Ytmhhodnackfhmaa
open Go Go.VM
theorem ok_shape_within (x0 x1 x2 : Int) (hok : OkA I_shape_within.args (x0, x1, x2, ())) : ∃ n, bodyE ty T_shape_within n I_shape_within (x0, x1, x2, ()) = some ((S_within x0 x1 x2, ()), ((), (), (), ())) := ⟨0, by
  rw [B_shape_within_eq]; unfold B_shape_within S_within; cases decide (x1 ≤ x0) <;> rfl⟩
noncomputable def E_shape_within : Entry Try.prog := Entry.of tok T_shape_within I_shape_within it_shape_within (fun (x0, x1, x2, ()) => some ((S_within x0 x1 x2, ()), ((), (), (), ()))) (fun (x0, x1, x2, ()) r hok h => by cases h; exact ok_shape_within x0 x1 x2 hok)

end Go.Proofs.Ytmhhodnackfhmaa
namespace Go.Proofs.Ytmhhodnackfhmaa
open Go Go.VM
/-! ### etchhouse.shape.IsAt -/
noncomputable def I_shape_IsAt : Inst := ⟨61, Try.f61, .two (.reg []) (.two (.reg [(1, 0)]) (.leaf)), (.cons (.pv i) .nil), (.cons .flat .bool .nil)⟩
theorem it_shape_IsAt : InTab Try.prog I_shape_IsAt := ⟨Try.func61, by kernel_rfl, rfl⟩
noncomputable def T_shape_IsAt : Nat → Entry Try.prog := nth (Entry.no Try.f0) [E_shape_within]
noncomputable def B_shape_IsAt (x0 : Int) : Option (((Bool × Unit) × (Unit × Unit))) :=
  some ((S_within x0 (-1000000) 1000000, ()), ((), ()))
theorem B_shape_IsAt_eq (n : Nat) (x0 : Int) : bodyE ty T_shape_IsAt n I_shape_IsAt (x0, ()) = B_shape_IsAt x0 := by kernel_rfl

end Go.Proofs.Ytmhhodnackfhmaa
namespace Go.Proofs.Ytmhhodnackfhmaa
open Go Go.VM
theorem ok_shape_IsAt (x0 : Int) (hok : OkA I_shape_IsAt.args (x0, ())) : ∃ n, bodyE ty T_shape_IsAt n I_shape_IsAt (x0, ()) = some ((S_within x0 (-1000000) 1000000, ()), ((), ())) := ⟨0, by rw [B_shape_IsAt_eq]; rfl⟩
noncomputable def E_shape_IsAt : Entry Try.prog := Entry.of tok T_shape_IsAt I_shape_IsAt it_shape_IsAt (fun (x0, ()) => some ((S_within x0 (-1000000) 1000000, ()), ((), ()))) (fun (x0, ()) r hok h => by cases h; exact ok_shape_IsAt x0 hok)

end Go.Proofs.Ytmhhodnackfhmaa
namespace Go.Proofs.Ytmhhodnackfhmaa
open Go Go.VM
/-! ### etchhouse.shape.IsPoint -/
noncomputable def I_shape_IsPoint : Inst := ⟨42, Try.f42, .two (.reg []) (.two (.reg [(2, 0), (6, 0)]) (.leaf)), (.cons (.pv (.pair i (.pair i .unit))) .nil), (.cons .flat .bool .nil)⟩
theorem it_shape_IsPoint : InTab Try.prog I_shape_IsPoint := ⟨Try.func42, by kernel_rfl, rfl⟩
noncomputable def T_shape_IsPoint : Nat → Entry Try.prog := nth (Entry.no Try.f0) [E_shape_IsAt]
noncomputable def B_shape_IsPoint (x0 : (Int × (Int × Unit))) : Option (((Bool × Unit) × (Unit × Unit))) :=
  (bif S_within x0.1 (-1000000) 1000000 then
    some ((S_within x0.2.1 (-1000000) 1000000, ()), ((), ()))
  else
    some ((false, ()), ((), ())))
theorem B_shape_IsPoint_eq (n : Nat) (x0 : (Int × (Int × Unit))) : bodyE ty T_shape_IsPoint n I_shape_IsPoint (x0, ()) = B_shape_IsPoint x0 := by kernel_rfl

end Go.Proofs.Ytmhhodnackfhmaa
namespace Go.Proofs.Ytmhhodnackfhmaa
open Go Go.VM
def S_isPt (p : Int × Int × Unit) : Bool := S_within p.1 (-1000000) 1000000 && S_within p.2.1 (-1000000) 1000000
theorem ok_shape_IsPoint (x0 : Int × Int × Unit) (hok : OkA I_shape_IsPoint.args (x0, ())) : ∃ n, bodyE ty T_shape_IsPoint n I_shape_IsPoint (x0, ()) = some ((S_isPt x0, ()), ((), ())) := ⟨0, by
  rw [B_shape_IsPoint_eq]; unfold B_shape_IsPoint S_isPt; cases S_within x0.1 (-1000000) 1000000 <;> rfl⟩
noncomputable def E_shape_IsPoint : Entry Try.prog := Entry.of tok T_shape_IsPoint I_shape_IsPoint it_shape_IsPoint (fun (x0, ()) => some ((S_isPt x0, ()), ((), ()))) (fun (x0, ()) r hok h => by cases h; exact ok_shape_IsPoint x0 hok)

end Go.Proofs.Ytmhhodnackfhmaa
namespace Go.Proofs.Ytmhhodnackfhmaa
open Go Go.VM
/-! ### etchhouse.drill.CheckHoles -/
noncomputable def I_drill_CheckHoles : Inst := ⟨30, Try.f30, .two (.reg []) (.two (.two (.reg []) (.two (.two (.reg []) (.leaf)) (.leaf))) (.two (.two (.reg []) (.one (.loop ⟨[(10, .pv i)], [], [8, 9], []⟩ (.two (.reg []) (.two (.two (.leaf) (.leaf)) (.two (.one (.two (.reg []) (.two (.reg [(2, 0), (7, 1), (13, 1)]) (.two (.two (.reg []) (.leaf)) (.leaf))))) (.reg []))))))) (.two (.reg []) (.leaf)))), (.cons (.pv (.sl (.pair (.pair i (.pair i .unit)) (.pair i (.pair i (.pair .bool .unit)))))) .nil), (.cons .flat i .nil)⟩
theorem it_drill_CheckHoles : InTab Try.prog I_drill_CheckHoles := ⟨Try.func30, by kernel_rfl, rfl⟩
noncomputable def T_drill_CheckHoles : Nat → Entry Try.prog := nth (Entry.no Try.f0) [E_shape_IsPoint, E_drill_within]
noncomputable def B_drill_CheckHoles (n : Nat) (x0 : List ((Int × (Int × Unit)) × (Int × (Int × (Bool × Unit))))) : Option (((Int × Unit) × (Unit × Unit))) :=
  (bif decide ((2000 < ((x0.length : Nat) : Int))) then
    some ((2, ()), ((), ()))
  else
    loopN (fun rec1 => fun
    | ((v1aa, ()), ()) =>
      (bif decide ((v1aa < ((x0.length : Nat) : Int))) then
        (bif inB v1aa x0.length then
          (bif (!(S_isPt ((x0.getD v1aa.toNat ((0, (0, ())), (0, (0, (false, ()))))).1))) then
            some ((1, ()), ((), ()))
          else
            (bif (!(S_within (((x0.getD v1aa.toNat ((0, (0, ())), (0, (0, (false, ()))))).2).1) 1 10000)) then
              some ((1, ()), ((), ()))
            else
              (bif (!(S_within ((((x0.getD v1aa.toNat ((0, (0, ())), (0, (0, (false, ()))))).2).2).1) 1 100000)) then
                some ((1, ()), ((), ()))
              else
                rec1 ((wrapI .i64 (v1aa + 1), ()), ()))))
        else
          none)
      else
        some ((0, ()), ((), ()))))
    n ((0, ()), ()))
theorem B_drill_CheckHoles_eq (n : Nat) (x0 : List ((Int × (Int × Unit)) × (Int × (Int × (Bool × Unit))))) : bodyE ty T_drill_CheckHoles n I_drill_CheckHoles (x0, ()) = B_drill_CheckHoles n x0 := by kernel_rfl

end Go.Proofs.Ytmhhodnackfhmaa
namespace Go.Proofs.Ytmhhodnackfhmaa
open Go Go.VM
def S_hole (h : Hole) : Bool := S_isPt h.1 && (S_within h.2.1 1 10000 && S_within h.2.2.1 1 100000)
def S_chkH (l : List Hole) : Int := bif decide ((2000 : Int) < (l.length : Int)) then 2 else bif l.all S_hole then 0 else 1
theorem ok_drill_CheckHoles (x0 : List Hole) (hok : OkA I_drill_CheckHoles.args (x0, ())) : ∃ n, bodyE ty T_drill_CheckHoles n I_drill_CheckHoles (x0, ()) = some ((S_chkH x0, ()), ((), ())) := ⟨x0.length + 1, by
  obtain ⟨⟨hl, _⟩, _⟩ := hok
  rw [B_drill_CheckHoles_eq]
  unfold B_drill_CheckHoles S_chkH
  cases hd : decide ((2000 : Int) < (x0.length : Int)) with
  | true => rfl
  | false =>
    simp only [cond_false]
    refine (loop_list (l := x0) (fun i (_ : Unit) => ((i, ()), ())) (fun a i _ => bif S_hole a then .inl () else .inr (some ((1, ()), ((), ())))) (fun _ => some ((0, ()), ((), ()))) (fun i h s rec => ?_) (fun s rec => ?_) (Nat.lt_succ_self _) ()).trans ?_
    · simp only [lt_nat h, inB_nat h, getD_lt h, succ64 h hl, cond_true, S_hole]
      cases S_isPt x0[i].1 <;> cases S_within x0[i].2.1 1 10000 <;> cases S_within x0[i].2.2.1 1 100000 <;> rfl
    · simp only [lt_self, cond_false]
    · rw [goL_all]
      cases x0.all S_hole <;> rfl⟩
noncomputable def E_drill_CheckHoles : Entry Try.prog := Entry.of tok T_drill_CheckHoles I_drill_CheckHoles it_drill_CheckHoles (fun (x0, ()) => some ((S_chkH x0, ()), ((), ()))) (fun (x0, ()) r hok h => by cases h; exact ok_drill_CheckHoles x0 hok)

end Go.Proofs.Ytmhhodnackfhmaa
namespace Go.Proofs.Ytmhhodnackfhmaa
open Go Go.VM
/-! ### etchhouse.drill.CheckJobs -/
noncomputable def I_drill_CheckJobs : Inst := ⟨22, Try.f22, .two (.reg []) (.two (.two (.reg [(1, 0)]) (.two (.reg []) (.two (.two (.reg []) (.leaf)) (.leaf)))) (.two (.two (.reg []) (.two (.two (.reg []) (.leaf)) (.leaf))) (.two (.reg []) (.two (.two (.reg []) (.one (.loop ⟨[(6, .pv i), (22, .pv i)], [], [0, 1, 20, 21], []⟩ (.two (.reg []) (.two (.two (.leaf) (.leaf)) (.two (.one (.two (.reg []) (.two (.two (.reg [(3, 1)]) (.two (.reg []) (.two (.two (.reg []) (.leaf)) (.leaf)))) (.two (.two (.reg [(4, 2)]) (.two (.two (.reg []) (.leaf)) (.leaf))) (.two (.two (.reg [(2, 3)]) (.two (.reg []) (.two (.two (.reg []) (.leaf)) (.leaf)))) (.reg [])))))) (.reg []))))))) (.two (.two (.reg []) (.two (.two (.reg []) (.leaf)) (.leaf))) (.two (.reg []) (.leaf))))))), (.cons (.pv (.sl (.pair .str (.pair i (.pair i (.pair i .unit)))))) (.cons (.pv (.sl (.pair .str (.pair (.sl (.pair (.pair i (.pair i .unit)) (.pair i (.pair i (.pair .bool .unit))))) .unit)))) .nil)), (.cons .flat i .nil)⟩
theorem it_drill_CheckJobs : InTab Try.prog I_drill_CheckJobs := ⟨Try.func22, by kernel_rfl, rfl⟩
noncomputable def T_drill_CheckJobs : Nat → Entry Try.prog := nth (Entry.no Try.f0) [E_drill_CheckTools, E_drill_toolAt, E_slices_ContainsFunc_etchhouse_api_Job_etchhouse_api_Job_of_drill_CheckJobs_1, E_drill_CheckHoles]
noncomputable def B_drill_CheckJobs (n : Nat) (x0 : List (ByteArray × (Int × (Int × (Int × Unit))))) (x1 : List (ByteArray × (List ((Int × (Int × Unit)) × (Int × (Int × (Bool × Unit)))) × Unit))) : Option (((Int × Unit) × (Unit × (Unit × Unit)))) :=
  (bif (!(decide ((S_chkT x0 = 0)))) then
    some ((S_chkT x0, ()), ((), ((), ())))
  else
    (bif decide ((100 < ((x1.length : Nat) : Int))) then
      some ((2, ()), ((), ((), ())))
    else
      loopN (fun rec1 => fun
      | ((v1aa, (v1aba, ())), ()) =>
        (bif decide ((v1aba < ((x1.length : Nat) : Int))) then
          (bif inB v1aba x1.length then
            (bif (!(S_there x0 ((x1.getD v1aba.toNat ((strOf []), ([], ()))).1))) then
              some ((9, ()), ((), ((), ())))
            else
              (bif (decide ((0 ≤ v1aba)) && decide ((v1aba ≤ ((x1.length : Nat) : Int)))) then
                ((B_slices_ContainsFunc_etchhouse_api_Job_etchhouse_api_Job_of_drill_CheckJobs_1 ((x1.drop 0).take (v1aba.toNat - 0)) (x1.getD v1aba.toNat ((strOf []), ([], ())), ())).bind fun ((r2aa, ()), ((), (((r2bbaaa, (r2bbaaba, ())), ()), ()))) =>
                (bif r2aa then
                  some ((7, ()), ((), ((), ())))
                else
                  (bif (!(decide ((S_chkH r2bbaaba = 0)))) then
                    some ((S_chkH r2bbaaba, ()), ((), ((), ())))
                  else
                    rec1 ((wrapI .i64 (v1aa + ((r2bbaaba.length : Nat) : Int)), (wrapI .i64 (v1aba + 1), ())), ()))))
              else
                none))
          else
            none)
        else
          (bif decide ((2000 < v1aa)) then
            some ((2, ()), ((), ((), ())))
          else
            some ((0, ()), ((), ((), ()))))))
      n ((0, (0, ())), ())))
theorem B_drill_CheckJobs_eq (n : Nat) (x0 : List (ByteArray × (Int × (Int × (Int × Unit))))) (x1 : List (ByteArray × (List ((Int × (Int × Unit)) × (Int × (Int × (Bool × Unit)))) × Unit))) : bodyE ty T_drill_CheckJobs n I_drill_CheckJobs (x0, (x1, ())) = B_drill_CheckJobs n x0 x1 := by kernel_rfl

end Go.Proofs.Ytmhhodnackfhmaa
namespace Go.Proofs.Ytmhhodnackfhmaa
open Go Go.VM
theorem chkH_le (l : List Hole) (h : S_chkH l = 0) : l.length ≤ 2000 := by
  unfold S_chkH at h
  cases hd : decide ((2000 : Int) < (l.length : Int)) with
  | true => rw [hd] at h; cases h
  | false => have := of_decide_eq_false hd; omega
theorem ok_drill_CheckJobs (x0 : List Mat) (x1 : List Job) (hok : OkA I_drill_CheckJobs.args (x0, x1, ())) : ∃ n, bodyE ty T_drill_CheckJobs n I_drill_CheckJobs (x0, x1, ()) = some ((S_chkJ S_chkH x0 x1, ()), ((), (), ())) := ⟨x1.length + 1, by
  have hl : x1.length ≤ maxLen := hok.2.1.1
  rw [B_drill_CheckJobs_eq]
  unfold B_drill_CheckJobs
  cases hT : decide (S_chkT x0 = 0) with
  | false => unfold S_chkJ; rw [hT]; rfl
  | true =>
  cases hj : decide ((100 : Int) < (x1.length : Int)) with
  | true => unfold S_chkJ; rw [hT, hj]; rfl
  | false =>
  have hT := of_decide_eq_true hT
  have hj := of_decide_eq_false hj
  simp only [Bool.not_true, cond_false]
  refine (loop_list (l := x1) (fun i (n : Int) => ((n, (i, ())), ())) (fun x i n => bif decide (jobC S_chkH x0 x1 x i = 0) then .inl (jobN x i n) else .inr (some ((jobC S_chkH x0 x1 x i, ()), ((), (), ())))) (fun n => bif decide ((2000 : Int) < n) then some ((2, ()), ((), (), ())) else some ((0, ()), ((), (), ()))) (fun i h n rec => ?_) (fun n rec => by simp only [lt_self, cond_false]) (Nat.lt_succ_self _) 0).trans (jobs_go chkH_le (by omega) hT (R := fun a => some ((a, ()), ((), (), ()))))
  have c1 : (decide ((0 : Int) ≤ (i : Int)) && decide ((i : Int) ≤ ((x1.length : Nat) : Int))) = true := by simp; omega
  simp only [lt_nat h, inB_nat h, getD_lt h, succ64 h hl, cond_true, (toolT_eq hT _).2, c1, Int.toNat_natCast, Nat.sub_zero, List.drop_zero, getD_at h]
  unfold jobC jobN
  cases decide (0 ≤ S_bitI x0 x1[i].1) with
  | false => rfl
  | true =>
    have e : decide (0 ≤ S_jobI (x1.take i) x1[i]) = (x1.take i).any (fun y => decide (y.1 = x1[i].1)) := find_any _
    simp only [Bool.not_true, cond_false]
    unfold B_slices_ContainsFunc_etchhouse_api_Job_etchhouse_api_Job_of_drill_CheckJobs_1
    simp only [Option.bind_some, e]
    cases (x1.take i).any (fun y => decide (y.1 = x1[i].1)) with
    | true => rfl
    | false =>
      simp only [cond_false]
      cases decide (S_chkH x1[i].2.1 = 0) <;> rfl⟩
noncomputable def E_drill_CheckJobs : Entry Try.prog := Entry.of tok T_drill_CheckJobs I_drill_CheckJobs it_drill_CheckJobs (fun (x0, x1, ()) => some ((S_chkJ S_chkH x0 x1, ()), ((), (), ()))) (fun (x0, x1, ()) r hok h => by cases h; exact ok_drill_CheckJobs x0 x1 hok)

end Go.Proofs.Ytmhhodnackfhmaa
namespace Go.Proofs.Ytmhhodnackfhmaa
open Go Go.VM
/-! ### etchhouse.drill.changesOf -/
noncomputable def I_drill_changesOf : Inst := ⟨34, Try.f34, .two (.reg []) (.two (.reg []) (.two (.two (.reg []) (.one (.loop ⟨[(6, .st (.at (.rf 6 []))), (15, .pv i)], [(6, ⟨(.own .flat), (.sl (.pair .str (.pair i (.pair i .unit)))), false, false⟩)], [0, 13, 14], []⟩ (.two (.reg []) (.two (.two (.leaf) (.leaf)) (.two (.one (.two (.reg []) (.two (.reg [(3, 0)]) (.two (.reg []) (.two (.two (.reg []) (.one (.loop ⟨[(6, .st (.at (.rf 6 []))), (11, .pv i), (12, .pv i)], [(6, ⟨(.own .flat), (.sl (.pair .str (.pair i (.pair i .unit)))), false, false⟩)], [0, 7, 8, 9, 13, 14, 15], [8, 9]⟩ (.two (.two (.reg []) (.two (.leaf) (.leaf))) (.two (.one (.two (.reg []) (.reg []))) (.reg [])))))) (.two (.reg []) (.two (.two (.reg []) (.leaf)) (.leaf)))))))) (.reg []))))))) (.two (.reg []) (.leaf)))), (.cons (.pv (.sl (.pair .str (.pair i (.pair i (.pair i .unit)))))) (.cons (.pv (.sl (.pair .str (.pair (.sl (.pair (.pair i (.pair i .unit)) (.pair i (.pair i (.pair .bool .unit))))) .unit)))) .nil)), (.cons (.own .flat) (.sl (.pair .str (.pair i (.pair i .unit)))) (.cons .flat i .nil))⟩
theorem it_drill_changesOf : InTab Try.prog I_drill_changesOf := ⟨Try.func34, by kernel_rfl, rfl⟩
noncomputable def T_drill_changesOf : Nat → Entry Try.prog := nth (Entry.no Try.f0) [E_drill_toolAt]
noncomputable def B_drill_changesOf (n : Nat) (x0 : List (ByteArray × (Int × (Int × (Int × Unit))))) (x1 : List (ByteArray × (List ((Int × (Int × Unit)) × (Int × (Int × (Bool × Unit)))) × Unit))) : Option (((List (ByteArray × (Int × (Int × Unit))) × (Int × Unit)) × (Unit × (Unit × Unit)))) :=
  loopN (fun rec1 => fun
  | ((v1aa, ()), (v1ba, ())) =>
    (bif decide ((v1aa < ((x1.length : Nat) : Int))) then
      (bif inB v1aa x1.length then
        loopN (fun rec2 => fun
        | ((v2aa, (v2aba, ())), (v2ba, ())) =>
          (bif decide ((v2aba < (((((x1.getD v1aa.toNat ((strOf []), ([], ()))).2).1).length : Nat) : Int))) then
            (bif decide (((v2ba.length + 1) ≤ 4294967296)) then
              rec2 ((wrapI .i64 (v2aa + 1), (wrapI .i64 (v2aba + (((S_matP x0 ((x1.getD v1aa.toNat ((strOf []), ([], ()))).1)).2).2).1), ())), ((v2ba ++ [((x1.getD v1aa.toNat ((strOf []), ([], ()))).1, (v1aa, (v2aba, ())))]), ()))
            else
              none)
          else
            (bif decide ((((((S_matP x0 ((x1.getD v1aa.toNat ((strOf []), ([], ()))).1)).2).2).2).1 < wrapI .i64 (v2aa + 1))) then
              some (([], (9, ())), ((), ((), ())))
            else
              rec1 ((wrapI .i64 (v1aa + 1), ()), (v2ba, ())))))
        n ((0, ((((S_matP x0 ((x1.getD v1aa.toNat ((strOf []), ([], ()))).1)).2).2).1, ())), (v1ba, ()))
      else
        none)
    else
      some ((v1ba, (0, ())), ((), ((), ())))))
  n ((0, ()), ([], ()))
theorem B_drill_changesOf_eq (n : Nat) (x0 : List (ByteArray × (Int × (Int × (Int × Unit))))) (x1 : List (ByteArray × (List ((Int × (Int × Unit)) × (Int × (Int × (Bool × Unit)))) × Unit))) : bodyE ty T_drill_changesOf n I_drill_changesOf (x0, (x1, ())) = B_drill_changesOf n x0 x1 := by kernel_rfl

end Go.Proofs.Ytmhhodnackfhmaa
namespace Go.Proofs.Ytmhhodnackfhmaa
open Go Go.VM
def S_chgO_drill_changesOf (x0 : List Mat) (x1 : List Job) : Option ((List Chg × (Int × Unit)) × Unit × Unit × Unit) := bif decide (S_chkJ S_chkH x0 x1 = 0) then some ((S_chgL x0 x1, S_chgF x0 x1, ()), ((), (), ())) else none
theorem ok_drill_changesOf (x0 : List Mat) (x1 : List Job) (hok : OkA I_drill_changesOf.args (x0, x1, ())) (r) (h : S_chgO_drill_changesOf x0 x1 = some r) : ∃ n, bodyE ty T_drill_changesOf n I_drill_changesOf (x0, x1, ()) = some r := ⟨2101, by
  have hl : x1.length ≤ maxLen := hok.2.1.1
  rw [B_drill_changesOf_eq, ← h]
  unfold S_chgO_drill_changesOf at h ⊢
  cases hc : decide (S_chkJ S_chkH x0 x1 = 0) with
  | false => rw [hc] at h; cases h
  | true =>
  clear h
  have hc := of_decide_eq_true hc
  obtain ⟨hT, hj, _, _⟩ := chkJ_ok hc
  have hat := chkJ_at hc
  unfold B_drill_changesOf
  refine (loop_listI (l := x1) (fun i (o : List Chg) => ((i, ()), (o, ()))) (fun i o => o.length ≤ 2000 * i) (chgB x0 (fun a b => some ((a, b, ()), ((), (), ())))) (fun o => some ((o, 0, ()), ((), (), ()))) (fun i h o hI => ⟨fun s' e => ?_, fun rec => ?_⟩) (fun o _ rec => by simp only [lt_self, cond_false]) (by omega) (s := []) (Nat.zero_le _)).trans ?_
  · unfold chgB at e
    have hle := chkH_le _ (hat i h).2.1
    cases hd : decide ((S_matR x0 x1[i].1).2.2.2.1 < ((chgN (S_matR x0 x1[i].1).2.2.1 x1[i].2.1.length + 1 : Nat) : Int)) with
    | true => rw [hd] at e; cases e
    | false =>
      rw [hd, cond_false] at e
      cases e
      have := chgN_le (S_matR x0 x1[i].1).2.2.1 x1[i].2.1.length
      rw [List.length_append, chgL_len]
      omega
  · obtain ⟨k, hk1, hk2, hk3, hk4, hk5⟩ := tool_ok hT (hat i h).1
    have hle := chkH_le _ (hat i h).2.1
    have hcn := chgN_le (S_matR x0 x1[i].1).2.2.1 x1[i].2.1.length
    simp only [lt_nat h, inB_nat h, getD_lt h, succ64 h hl, cond_true, Int.toNat_natCast, getD_at h, (toolT_eq hT _).1]
    refine (chg_loop hk4 hle (by omega) (D := fun a o => bif decide ((S_matR x0 x1[i].1).2.2.2.1 < wrapI .i64 (a + 1)) then some (([], 9, ()), ((), (), ())) else rec ((((i + 1 : Nat) : Int), ()), (o, ()))) (by omega)).trans ?_
    have e : wrapI .i64 (((chgN (S_matR x0 x1[i].1).2.2.1 x1[i].2.1.length : Nat) : Int) + 1) = ((chgN (S_matR x0 x1[i].1).2.2.1 x1[i].2.1.length + 1 : Nat) : Int) := by rw [wrap64 (by omega) (by omega)]; omega
    rw [e]
    unfold chgB
    cases decide ((S_matR x0 x1[i].1).2.2.2.1 < ((chgN (S_matR x0 x1[i].1).2.2.1 x1[i].2.1.length + 1 : Nat) : Int)) <;> rfl
  · exact chg_go x1 0 []⟩
noncomputable def E_drill_changesOf : Entry Try.prog := Entry.of tok T_drill_changesOf I_drill_changesOf it_drill_changesOf (fun (x0, x1, ()) => S_chgO_drill_changesOf x0 x1) (fun (x0, x1, ()) r hok h => ok_drill_changesOf x0 x1 hok r h)

end Go.Proofs.Ytmhhodnackfhmaa
namespace Go.Proofs.Ytmhhodnackfhmaa
open Go Go.VM
/-! ### etchhouse.drill.Changes -/
noncomputable def I_drill_Changes : Inst := ⟨10, Try.f10, .two (.reg []) (.two (.two (.reg [(2, 0)]) (.two (.reg []) (.two (.two (.reg []) (.leaf)) (.leaf)))) (.two (.reg [(2, 1)]) (.leaf))), (.cons (.pv (.sl (.pair .str (.pair i (.pair i (.pair i .unit)))))) (.cons (.pv (.sl (.pair .str (.pair (.sl (.pair (.pair i (.pair i .unit)) (.pair i (.pair i (.pair .bool .unit))))) .unit)))) .nil)), (.cons (.own .flat) (.sl (.pair .str (.pair i (.pair i .unit)))) (.cons .flat i .nil))⟩
theorem it_drill_Changes : InTab Try.prog I_drill_Changes := ⟨Try.func10, by kernel_rfl, rfl⟩
noncomputable def T_drill_Changes : Nat → Entry Try.prog := nth (Entry.no Try.f0) [E_drill_CheckJobs, E_drill_changesOf]
noncomputable def B_drill_Changes (x0 : List (ByteArray × (Int × (Int × (Int × Unit))))) (x1 : List (ByteArray × (List ((Int × (Int × Unit)) × (Int × (Int × (Bool × Unit)))) × Unit))) : Option (((List (ByteArray × (Int × (Int × Unit))) × (Int × Unit)) × (Unit × (Unit × Unit)))) :=
  (bif (!(decide ((S_chkJ S_chkH x0 x1 = 0)))) then
    some (([], (S_chkJ S_chkH x0 x1, ())), ((), ((), ())))
  else
    ((S_chgO_drill_changesOf x0 x1).bind fun ((r1aa, (r1aba, ())), ((), ((), ()))) =>
    some ((r1aa, (r1aba, ())), ((), ((), ())))))
theorem B_drill_Changes_eq (n : Nat) (x0 : List (ByteArray × (Int × (Int × (Int × Unit))))) (x1 : List (ByteArray × (List ((Int × (Int × Unit)) × (Int × (Int × (Bool × Unit)))) × Unit))) : bodyE ty T_drill_Changes n I_drill_Changes (x0, (x1, ())) = B_drill_Changes x0 x1 := by kernel_rfl

end Go.Proofs.Ytmhhodnackfhmaa
namespace Go.Proofs.Ytmhhodnackfhmaa
open Go Go.VM
theorem ok_drill_Changes (x0 : List Mat) (x1 : List Job) (hok : OkA I_drill_Changes.args (x0, x1, ())) : ∃ n, bodyE ty T_drill_Changes n I_drill_Changes (x0, x1, ()) = some ((S_ChgL S_chkH x0 x1, S_ChgF S_chkH x0 x1, ()), ((), (), ())) := ⟨0, by
  rw [B_drill_Changes_eq]
  unfold B_drill_Changes S_ChgL S_ChgF
  cases h : decide (S_chkJ S_chkH x0 x1 = 0) with
  | false => rfl
  | true =>
    unfold S_chgO_drill_changesOf
    rw [h]; rfl⟩
noncomputable def E_drill_Changes : Entry Try.prog := Entry.of tok T_drill_Changes I_drill_Changes it_drill_Changes (fun (x0, x1, ()) => some ((S_ChgL S_chkH x0 x1, S_ChgF S_chkH x0 x1, ()), ((), (), ()))) (fun (x0, x1, ()) r hok h => by cases h; exact ok_drill_Changes x0 x1 hok)

end Go.Proofs.Ytmhhodnackfhmaa
namespace Go.Proofs.Ytmhhodnackfhmaa
open Go Go.VM
/-! ### etchhouse.drill.checkPoints$1 -/
noncomputable def I_drill_checkPoints_1 : Inst := ⟨71, Try.f71, .two (.reg []) (.two (.reg [(1, 0)]) (.leaf)), (.cons (.pv (.pair i (.pair i .unit))) .nil), (.cons .flat .bool .nil)⟩
theorem it_drill_checkPoints_1 : InTab Try.prog I_drill_checkPoints_1 := ⟨Try.func71, by kernel_rfl, rfl⟩
noncomputable def T_drill_checkPoints_1 : Nat → Entry Try.prog := nth (Entry.no Try.f0) [E_shape_IsPoint]
noncomputable def B_drill_checkPoints_1 (x0 : (Int × (Int × Unit))) : Option (((Bool × Unit) × (Unit × Unit))) :=
  some (((!(S_isPt x0)), ()), ((), ()))
theorem B_drill_checkPoints_1_eq (n : Nat) (x0 : (Int × (Int × Unit))) : bodyE ty T_drill_checkPoints_1 n I_drill_checkPoints_1 (x0, ()) = B_drill_checkPoints_1 x0 := by kernel_rfl

end Go.Proofs.Ytmhhodnackfhmaa
namespace Go.Proofs.Ytmhhodnackfhmaa
open Go Go.VM
theorem ok_drill_checkPoints_1 (x0 : Int × Int × Unit) (hok : OkA I_drill_checkPoints_1.args (x0, ())) : ∃ n, bodyE ty T_drill_checkPoints_1 n I_drill_checkPoints_1 (x0, ()) = some ((!S_isPt x0, ()), ((), ())) := ⟨0, by rw [B_drill_checkPoints_1_eq]; rfl⟩
noncomputable def E_drill_checkPoints_1 : Entry Try.prog := Entry.of tok T_drill_checkPoints_1 I_drill_checkPoints_1 it_drill_checkPoints_1 (fun (x0, ()) => some ((!S_isPt x0, ()), ((), ()))) (fun (x0, ()) r hok h => by cases h; exact ok_drill_checkPoints_1 x0 hok)

end Go.Proofs.Ytmhhodnackfhmaa
namespace Go.Proofs.Ytmhhodnackfhmaa
open Go Go.VM
/-! ### slices.IndexFunc[[]etchhouse.api.Point,etchhouse.api.Point] -/
noncomputable def I_slices_IndexFunc_etchhouse_api_Point_etchhouse_api_Point_of_drill_checkPoints_1 : Inst := ⟨88, Try.f88, .two (.reg []) (.two (.two (.reg []) (.one (.loop ⟨[(8, .pv i)], [], [0, 1, 7], []⟩ (.two (.reg []) (.two (.two (.leaf) (.leaf)) (.two (.one (.two (.reg []) (.two (.reg [(5, 0)]) (.two (.two (.reg []) (.leaf)) (.leaf))))) (.reg []))))))) (.two (.reg []) (.leaf))), (.cons (.pv (.sl (.pair i (.pair i .unit)))) (.cons (.fn 71 .nil) .nil)), (.cons .flat i .nil)⟩
theorem it_slices_IndexFunc_etchhouse_api_Point_etchhouse_api_Point_of_drill_checkPoints_1 : InTab Try.prog I_slices_IndexFunc_etchhouse_api_Point_etchhouse_api_Point_of_drill_checkPoints_1 := ⟨Try.func88, by kernel_rfl, rfl⟩
noncomputable def T_slices_IndexFunc_etchhouse_api_Point_etchhouse_api_Point_of_drill_checkPoints_1 : Nat → Entry Try.prog := nth (Entry.no Try.f0) [E_drill_checkPoints_1]
noncomputable def B_slices_IndexFunc_etchhouse_api_Point_etchhouse_api_Point_of_drill_checkPoints_1 (n : Nat) (x0 : List (Int × (Int × Unit))) (x1 : Unit) : Option (((Int × Unit) × (Unit × (Unit × Unit)))) :=
  loopN (fun rec1 => fun
  | ((v1aa, ()), ()) =>
    (bif decide ((v1aa < ((x0.length : Nat) : Int))) then
      (bif inB v1aa x0.length then
        (bif (!(S_isPt (x0.getD v1aa.toNat (0, (0, ()))))) then
          some ((v1aa, ()), ((), ((), ())))
        else
          rec1 ((wrapI .i64 (v1aa + 1), ()), ()))
      else
        none)
    else
      some (((-1), ()), ((), ((), ())))))
  n ((0, ()), ())
theorem B_slices_IndexFunc_etchhouse_api_Point_etchhouse_api_Point_of_drill_checkPoints_1_eq (n : Nat) (x0 : List (Int × (Int × Unit))) (x1 : Unit) : bodyE ty T_slices_IndexFunc_etchhouse_api_Point_etchhouse_api_Point_of_drill_checkPoints_1 n I_slices_IndexFunc_etchhouse_api_Point_etchhouse_api_Point_of_drill_checkPoints_1 (x0, (x1, ())) = B_slices_IndexFunc_etchhouse_api_Point_etchhouse_api_Point_of_drill_checkPoints_1 n x0 x1 := by kernel_rfl

end Go.Proofs.Ytmhhodnackfhmaa
namespace Go.Proofs.Ytmhhodnackfhmaa
open Go Go.VM
def S_idxPt : List (Int × Int × Unit) → Nat → Int
  | [], _ => -1
  | a :: r, i => bif S_isPt a then S_idxPt r (i + 1) else (i : Int)
theorem idxPt_neg : ∀ (l : List (Int × Int × Unit)) (i : Nat), decide (0 ≤ S_idxPt l i) = !l.all S_isPt
  | [], i => by simp [S_idxPt]
  | a :: r, i => by
    have ih := idxPt_neg r (i + 1)
    by_cases h : S_isPt a = true
    · have : S_idxPt (a :: r) i = S_idxPt r (i + 1) := by simp only [S_idxPt, h, cond_true]
      rw [this, ih]; simp [h]
    · have h : S_isPt a = false := by simpa using h
      have : S_idxPt (a :: r) i = i := by simp only [S_idxPt, h, cond_false]
      rw [this]; simp [h]
theorem ok_slices_IndexFunc_etchhouse_api_Point_etchhouse_api_Point_of_drill_checkPoints_1 (x0 : List (Int × Int × Unit)) (hok : OkA I_slices_IndexFunc_etchhouse_api_Point_etchhouse_api_Point_of_drill_checkPoints_1.args (x0, (), ())) : ∃ n, bodyE ty T_slices_IndexFunc_etchhouse_api_Point_etchhouse_api_Point_of_drill_checkPoints_1 n I_slices_IndexFunc_etchhouse_api_Point_etchhouse_api_Point_of_drill_checkPoints_1 (x0, (), ()) = some ((S_idxPt x0 0, ()), ((), (), ())) := ⟨x0.length + 1, by
  obtain ⟨⟨hl, _⟩, _⟩ := hok
  rw [B_slices_IndexFunc_etchhouse_api_Point_etchhouse_api_Point_of_drill_checkPoints_1_eq]
  unfold B_slices_IndexFunc_etchhouse_api_Point_etchhouse_api_Point_of_drill_checkPoints_1
  refine (loop_list (l := x0) (fun i (_ : Unit) => ((i, ()), ())) (fun a i _ => bif S_isPt a then .inl () else .inr (some (((i : Int), ()), ((), (), ())))) (fun _ => some ((-1, ()), ((), (), ()))) (fun i h s rec => ?_) (fun s rec => ?_) (Nat.lt_succ_self _) ()).trans ?_
  · simp only [lt_nat h, inB_nat h, getD_lt h, succ64 h hl, cond_true]
    cases S_isPt x0[i] <;> rfl
  · simp only [lt_self, cond_false]
  · have : ∀ (l : List (Int × Int × Unit)) i, goL (fun a i (_ : Unit) => bif S_isPt a then .inl () else .inr (some (((i : Int), ()), ((), (), ())))) (fun _ => some ((-1, ()), ((), (), ()))) l i () = some ((S_idxPt l i, ()), ((), (), ())) := by
      intro l
      induction l with
      | nil => intro i; rfl
      | cons a r ih =>
        intro i
        simp only [goL, S_idxPt]
        cases S_isPt a with
        | true => simpa using ih (i + 1)
        | false => rfl
    exact this x0 0⟩
noncomputable def E_slices_IndexFunc_etchhouse_api_Point_etchhouse_api_Point_of_drill_checkPoints_1 : Entry Try.prog := Entry.of tok T_slices_IndexFunc_etchhouse_api_Point_etchhouse_api_Point_of_drill_checkPoints_1 I_slices_IndexFunc_etchhouse_api_Point_etchhouse_api_Point_of_drill_checkPoints_1 it_slices_IndexFunc_etchhouse_api_Point_etchhouse_api_Point_of_drill_checkPoints_1 (fun (x0, (), ()) => some ((S_idxPt x0 0, ()), ((), (), ()))) (fun (x0, (), ()) r hok h => by cases h; exact ok_slices_IndexFunc_etchhouse_api_Point_etchhouse_api_Point_of_drill_checkPoints_1 x0 hok)

end Go.Proofs.Ytmhhodnackfhmaa
namespace Go.Proofs.Ytmhhodnackfhmaa
open Go Go.VM
/-! ### slices.ContainsFunc[[]etchhouse.api.Point,etchhouse.api.Point] -/
noncomputable def I_slices_ContainsFunc_etchhouse_api_Point_etchhouse_api_Point_of_drill_checkPoints_1 : Inst := ⟨70, Try.f70, .two (.reg []) (.two (.reg [(2, 0)]) (.leaf)), (.cons (.pv (.sl (.pair i (.pair i .unit)))) (.cons (.fn 71 .nil) .nil)), (.cons .flat .bool .nil)⟩
theorem it_slices_ContainsFunc_etchhouse_api_Point_etchhouse_api_Point_of_drill_checkPoints_1 : InTab Try.prog I_slices_ContainsFunc_etchhouse_api_Point_etchhouse_api_Point_of_drill_checkPoints_1 := ⟨Try.func70, by kernel_rfl, rfl⟩
noncomputable def T_slices_ContainsFunc_etchhouse_api_Point_etchhouse_api_Point_of_drill_checkPoints_1 : Nat → Entry Try.prog := nth (Entry.no Try.f0) [E_slices_IndexFunc_etchhouse_api_Point_etchhouse_api_Point_of_drill_checkPoints_1]
noncomputable def B_slices_ContainsFunc_etchhouse_api_Point_etchhouse_api_Point_of_drill_checkPoints_1 (x0 : List (Int × (Int × Unit))) (x1 : Unit) : Option (((Bool × Unit) × (Unit × (Unit × Unit)))) :=
  some ((decide ((0 ≤ S_idxPt x0 0)), ()), ((), ((), ())))
theorem B_slices_ContainsFunc_etchhouse_api_Point_etchhouse_api_Point_of_drill_checkPoints_1_eq (n : Nat) (x0 : List (Int × (Int × Unit))) (x1 : Unit) : bodyE ty T_slices_ContainsFunc_etchhouse_api_Point_etchhouse_api_Point_of_drill_checkPoints_1 n I_slices_ContainsFunc_etchhouse_api_Point_etchhouse_api_Point_of_drill_checkPoints_1 (x0, (x1, ())) = B_slices_ContainsFunc_etchhouse_api_Point_etchhouse_api_Point_of_drill_checkPoints_1 x0 x1 := by kernel_rfl

end Go.Proofs.Ytmhhodnackfhmaa
namespace Go.Proofs.Ytmhhodnackfhmaa
open Go Go.VM
noncomputable def E_slices_ContainsFunc_etchhouse_api_Point_etchhouse_api_Point_of_drill_checkPoints_1 : Entry Try.prog := Entry.of tok T_slices_ContainsFunc_etchhouse_api_Point_etchhouse_api_Point_of_drill_checkPoints_1 I_slices_ContainsFunc_etchhouse_api_Point_etchhouse_api_Point_of_drill_checkPoints_1 it_slices_ContainsFunc_etchhouse_api_Point_etchhouse_api_Point_of_drill_checkPoints_1 (fun x => B_slices_ContainsFunc_etchhouse_api_Point_etchhouse_api_Point_of_drill_checkPoints_1 x.1 x.2.1) (fun (a0, a1, ()) r _ h => ⟨0, (B_slices_ContainsFunc_etchhouse_api_Point_etchhouse_api_Point_of_drill_checkPoints_1_eq 0 a0 a1).trans h⟩)

end Go.Proofs.Ytmhhodnackfhmaa
namespace Go.Proofs.Ytmhhodnackfhmaa
open Go Go.VM
/-! ### etchhouse.drill.checkPoints -/
noncomputable def I_drill_checkPoints : Inst := ⟨56, Try.f56, .two (.reg []) (.two (.two (.reg []) (.two (.two (.reg []) (.leaf)) (.leaf))) (.two (.two (.reg [(1, 0), (5, 1)]) (.two (.two (.reg []) (.leaf)) (.leaf))) (.two (.reg []) (.leaf)))), (.cons (.pv (.sl (.pair i (.pair i .unit)))) (.cons (.pv (.pair i (.pair i .unit))) (.cons (.pv i) .nil))), (.cons .flat i .nil)⟩
theorem it_drill_checkPoints : InTab Try.prog I_drill_checkPoints := ⟨Try.func56, by kernel_rfl, rfl⟩
noncomputable def T_drill_checkPoints : Nat → Entry Try.prog := nth (Entry.no Try.f0) [E_shape_IsPoint, E_slices_ContainsFunc_etchhouse_api_Point_etchhouse_api_Point_of_drill_checkPoints_1]
noncomputable def B_drill_checkPoints (x0 : List (Int × (Int × Unit))) (x1 : (Int × (Int × Unit))) (x2 : Int) : Option (((Int × Unit) × (Unit × (Unit × (Unit × Unit))))) :=
  (bif decide ((x2 < ((x0.length : Nat) : Int))) then
    some ((2, ()), ((), ((), ((), ()))))
  else
    (bif (!(S_isPt x1)) then
      some ((1, ()), ((), ((), ((), ()))))
    else
      ((B_slices_ContainsFunc_etchhouse_api_Point_etchhouse_api_Point_of_drill_checkPoints_1 x0 ()).bind fun ((r1aa, ()), ((), ((), ()))) =>
      (bif r1aa then
        some ((1, ()), ((), ((), ((), ()))))
      else
        some ((0, ()), ((), ((), ((), ()))))))))
theorem B_drill_checkPoints_eq (n : Nat) (x0 : List (Int × (Int × Unit))) (x1 : (Int × (Int × Unit))) (x2 : Int) : bodyE ty T_drill_checkPoints n I_drill_checkPoints (x0, (x1, (x2, ()))) = B_drill_checkPoints x0 x1 x2 := by kernel_rfl

end Go.Proofs.Ytmhhodnackfhmaa
namespace Go.Proofs.Ytmhhodnackfhmaa
open Go Go.VM
def S_chk (l : List Pt) (p : Pt) (most : Int) : Int := bif decide (most < (l.length : Int)) then 2 else bif S_isPt p && l.all S_isPt then 0 else 1
theorem ok_drill_checkPoints (x0 : List Pt) (x1 : Pt) (x2 : Int) (hok : OkA I_drill_checkPoints.args (x0, x1, x2, ())) : ∃ n, bodyE ty T_drill_checkPoints n I_drill_checkPoints (x0, x1, x2, ()) = some ((S_chk x0 x1 x2, ()), ((), (), (), ())) := ⟨0, by
  rw [B_drill_checkPoints_eq]
  unfold B_drill_checkPoints S_chk
  cases decide (x2 < (x0.length : Int)) with
  | true => rfl
  | false =>
    cases S_isPt x1 with
    | false => rfl
    | true =>
      have : B_slices_ContainsFunc_etchhouse_api_Point_etchhouse_api_Point_of_drill_checkPoints_1 x0 () = some ((!x0.all S_isPt, ()), ((), ((), ()))) := by
        unfold B_slices_ContainsFunc_etchhouse_api_Point_etchhouse_api_Point_of_drill_checkPoints_1
        rw [idxPt_neg]
      simp only [cond_false, Bool.not_true, this, Option.bind_some, Bool.true_and]
      cases x0.all S_isPt <;> rfl⟩
noncomputable def E_drill_checkPoints : Entry Try.prog := Entry.of tok T_drill_checkPoints I_drill_checkPoints it_drill_checkPoints (fun (x0, x1, x2, ()) => some ((S_chk x0 x1 x2, ()), ((), (), (), ()))) (fun (x0, x1, x2, ()) r hok h => by cases h; exact ok_drill_checkPoints x0 x1 x2 hok)

end Go.Proofs.Ytmhhodnackfhmaa
namespace Go.Proofs.Ytmhhodnackfhmaa
open Go Go.VM
/-! ### etchhouse.drill.apart -/
noncomputable def I_drill_apart : Inst := ⟨74, Try.f74, .two (.reg []) (.two (.reg []) (.leaf)), (.cons (.pv i) (.cons (.pv i) .nil)), (.cons .flat i .nil)⟩
theorem it_drill_apart : InTab Try.prog I_drill_apart := ⟨Try.func74, by kernel_rfl, rfl⟩
noncomputable def T_drill_apart : Nat → Entry Try.prog := nth (Entry.no Try.f0) []
noncomputable def B_drill_apart (x0 : Int) (x1 : Int) : Option (((Int × Unit) × (Unit × (Unit × Unit)))) :=
  some (((bif decide ((wrapI .i64 (x0 - x1) < wrapI .i64 (x1 - x0))) then wrapI .i64 (x1 - x0) else wrapI .i64 (x0 - x1)), ()), ((), ((), ())))
theorem B_drill_apart_eq (n : Nat) (x0 : Int) (x1 : Int) : bodyE ty T_drill_apart n I_drill_apart (x0, (x1, ())) = B_drill_apart x0 x1 := by kernel_rfl

end Go.Proofs.Ytmhhodnackfhmaa
namespace Go.Proofs.Ytmhhodnackfhmaa
open Go Go.VM
def S_apart (a b : Int) : Int := bif decide (wrapI .i64 (a - b) < wrapI .i64 (b - a)) then wrapI .i64 (b - a) else wrapI .i64 (a - b)
theorem ok_drill_apart (x0 x1 : Int) (hok : OkA I_drill_apart.args (x0, x1, ())) : ∃ n, bodyE ty T_drill_apart n I_drill_apart (x0, x1, ()) = some ((S_apart x0 x1, ()), ((), (), ())) := ⟨0, by rw [B_drill_apart_eq]; rfl⟩
noncomputable def E_drill_apart : Entry Try.prog := Entry.of tok T_drill_apart I_drill_apart it_drill_apart (fun (x0, x1, ()) => some ((S_apart x0 x1, ()), ((), (), ()))) (fun (x0, x1, ()) r hok h => by cases h; exact ok_drill_apart x0 x1 hok)

end Go.Proofs.Ytmhhodnackfhmaa
namespace Go.Proofs.Ytmhhodnackfhmaa
open Go Go.VM
/-! ### etchhouse.drill.far -/
noncomputable def I_drill_far : Inst := ⟨62, Try.f62, .two (.reg []) (.two (.draw [(4, 0), (9, 0)] [0, 1, 2, 3, 5, 6, 7, 8, 4, 9, 10, 11] [3, 2]) (.leaf)), (.cons (.pv (.pair i (.pair i .unit))) (.cons (.pv (.pair i (.pair i .unit))) .nil)), (.cons .flat i .nil)⟩
theorem it_drill_far : InTab Try.prog I_drill_far := ⟨Try.func62, by kernel_rfl, rfl⟩
noncomputable def T_drill_far : Nat → Entry Try.prog := nth (Entry.no Try.f0) [E_drill_apart]
noncomputable def B_drill_far (x0 : (Int × (Int × Unit))) (x1 : (Int × (Int × Unit))) : Option (((Int × Unit) × (Unit × (Unit × Unit)))) :=
  some (((bif decide ((S_apart x0.1 x1.1 < S_apart x0.2.1 x1.2.1)) then S_apart x0.2.1 x1.2.1 else S_apart x0.1 x1.1), ()), ((), ((), ())))
theorem B_drill_far_eq (n : Nat) (x0 : (Int × (Int × Unit))) (x1 : (Int × (Int × Unit))) : bodyE ty T_drill_far n I_drill_far (x0, (x1, ())) = B_drill_far x0 x1 := by kernel_rfl

end Go.Proofs.Ytmhhodnackfhmaa
namespace Go.Proofs.Ytmhhodnackfhmaa
open Go Go.VM
def S_far (p q : Pt) : Int := bif decide (S_apart p.1 q.1 < S_apart p.2.1 q.2.1) then S_apart p.2.1 q.2.1 else S_apart p.1 q.1
theorem ok_drill_far (x0 x1 : Pt) (hok : OkA I_drill_far.args (x0, x1, ())) : ∃ n, bodyE ty T_drill_far n I_drill_far (x0, x1, ()) = some ((S_far x0 x1, ()), ((), (), ())) := ⟨0, by rw [B_drill_far_eq]; rfl⟩
noncomputable def E_drill_far : Entry Try.prog := Entry.of tok T_drill_far I_drill_far it_drill_far (fun (x0, x1, ()) => some ((S_far x0 x1, ()), ((), (), ()))) (fun (x0, x1, ()) r hok h => by cases h; exact ok_drill_far x0 x1 hok)

end Go.Proofs.Ytmhhodnackfhmaa
namespace Go.Proofs.Ytmhhodnackfhmaa
open Go Go.VM
/-! ### etchhouse.drill.way -/
noncomputable def I_drill_way : Inst := ⟨43, Try.f43, .two (.reg []) (.two (.reg []) (.two (.two (.reg []) (.one (.loop ⟨[(5, .pv i), (10, .pv i)], [(3, ⟨.flat, (.pair i (.pair i .unit)), true, false⟩)], [3, 8, 9], []⟩ (.two (.reg []) (.two (.two (.leaf) (.leaf)) (.two (.one (.two (.reg []) (.two (.reg [(3, 0)]) (.reg [])))) (.reg []))))))) (.two (.reg []) (.leaf)))), (.cons (.pv (.sl (.pair i (.pair i .unit)))) (.cons (.pv (.pair i (.pair i .unit))) .nil)), (.cons .flat i .nil)⟩
theorem it_drill_way : InTab Try.prog I_drill_way := ⟨Try.func43, by kernel_rfl, rfl⟩
noncomputable def T_drill_way : Nat → Entry Try.prog := nth (Entry.no Try.f0) [E_drill_far]
noncomputable def B_drill_way (n : Nat) (x0 : List (Int × (Int × Unit))) (x1 : (Int × (Int × Unit))) : Option (((Int × Unit) × (Unit × (Unit × Unit)))) :=
  loopN (fun rec1 => fun
  | ((v1aa, (v1aba, ())), ((v1baa, (v1baba, ())), ())) =>
    (bif decide ((v1aba < ((x0.length : Nat) : Int))) then
      (bif inB v1aba x0.length then
        rec1 ((wrapI .i64 (v1aa + S_far (v1baa, (v1baba, ())) (x0.getD v1aba.toNat (0, (0, ())))), (wrapI .i64 (v1aba + 1), ())), (x0.getD v1aba.toNat (0, (0, ())), ()))
      else
        none)
    else
      some ((v1aa, ()), ((), ((), ())))))
  n ((0, (0, ())), (x1, ()))
theorem B_drill_way_eq (n : Nat) (x0 : List (Int × (Int × Unit))) (x1 : (Int × (Int × Unit))) : bodyE ty T_drill_way n I_drill_way (x0, (x1, ())) = B_drill_way n x0 x1 := by kernel_rfl

end Go.Proofs.Ytmhhodnackfhmaa
namespace Go.Proofs.Ytmhhodnackfhmaa
open Go Go.VM
theorem ok_drill_way (x0 : List Pt) (x1 : Pt) (hok : OkA I_drill_way.args (x0, x1, ())) : ∃ n, bodyE ty T_drill_way n I_drill_way (x0, x1, ()) = some ((S_way S_far x0 x1, ()), ((), (), ())) := ⟨x0.length + 1, by
  obtain ⟨⟨hl, _⟩, _⟩ := hok
  rw [B_drill_way_eq]
  unfold B_drill_way
  refine (loop_fold (l := x0) (fun i (s : Int × Pt) => ((s.1, (i, ())), (s.2, ()))) (fun _ _ => True) (wayF S_far) (fun s => some ((s.1, ()), ((), (), ()))) (fun i h s _ => ?_) (fun s _ rec => ?_) (Nat.lt_succ_self _) (s := (0, x1)) trivial)
  · obtain ⟨s, a, b, ⟨⟩⟩ := s
    exact ⟨trivial, fun rec => by simp only [lt_nat h, inB_nat h, getD_lt h, succ64 h hl, cond_true]; rfl⟩
  · obtain ⟨s, a, b, ⟨⟩⟩ := s
    simp only [lt_self, cond_false]⟩
noncomputable def E_drill_way : Entry Try.prog := Entry.of tok T_drill_way I_drill_way it_drill_way (fun (x0, x1, ()) => some ((S_way S_far x0 x1, ()), ((), (), ()))) (fun (x0, x1, ()) r hok h => by cases h; exact ok_drill_way x0 x1 hok)

end Go.Proofs.Ytmhhodnackfhmaa
namespace Go.Proofs.Ytmhhodnackfhmaa
open Go Go.VM
/-! ### etchhouse.drill.Way -/
noncomputable def I_drill_Way : Inst := ⟨35, Try.f35, .two (.reg []) (.two (.two (.reg [(2, 0)]) (.two (.reg []) (.two (.two (.reg []) (.leaf)) (.leaf)))) (.two (.reg [(2, 1)]) (.leaf))), (.cons (.pv (.sl (.pair i (.pair i .unit)))) (.cons (.pv (.pair i (.pair i .unit))) .nil)), (.cons .flat i (.cons .flat i .nil))⟩
theorem it_drill_Way : InTab Try.prog I_drill_Way := ⟨Try.func35, by kernel_rfl, rfl⟩
noncomputable def T_drill_Way : Nat → Entry Try.prog := nth (Entry.no Try.f0) [E_drill_checkPoints, E_drill_way]
noncomputable def B_drill_Way (x0 : List (Int × (Int × Unit))) (x1 : (Int × (Int × Unit))) : Option (((Int × (Int × Unit)) × (Unit × (Unit × Unit)))) :=
  (bif (!(decide ((S_chk x0 x1 2000 = 0)))) then
    some ((0, (S_chk x0 x1 2000, ())), ((), ((), ())))
  else
    some ((S_way S_far x0 x1, (0, ())), ((), ((), ()))))
theorem B_drill_Way_eq (n : Nat) (x0 : List (Int × (Int × Unit))) (x1 : (Int × (Int × Unit))) : bodyE ty T_drill_Way n I_drill_Way (x0, (x1, ())) = B_drill_Way x0 x1 := by kernel_rfl

end Go.Proofs.Ytmhhodnackfhmaa
namespace Go.Proofs.Ytmhhodnackfhmaa
open Go Go.VM
def S_WayP (x0 : List Pt) (x1 : Pt) : Int × Int := bif decide (S_chk x0 x1 2000 = 0) then (S_way S_far x0 x1, 0) else (0, S_chk x0 x1 2000)
theorem ok_drill_Way (x0 : List Pt) (x1 : Pt) (hok : OkA I_drill_Way.args (x0, x1, ())) : ∃ n, bodyE ty T_drill_Way n I_drill_Way (x0, x1, ()) = some (((S_WayP x0 x1).1, (S_WayP x0 x1).2, ()), ((), (), ())) := ⟨0, by
  rw [B_drill_Way_eq]
  unfold B_drill_Way S_WayP
  cases decide (S_chk x0 x1 2000 = 0) <;> rfl⟩
noncomputable def E_drill_Way : Entry Try.prog := Entry.of tok T_drill_Way I_drill_Way it_drill_Way (fun (x0, x1, ()) => some (((S_WayP x0 x1).1, (S_WayP x0 x1).2, ()), ((), (), ()))) (fun (x0, x1, ()) r hok h => by cases h; exact ok_drill_Way x0 x1 hok)

end Go.Proofs.Ytmhhodnackfhmaa
namespace Go.Proofs.Ytmhhodnackfhmaa
open Go Go.VM
/-! ### etchhouse.etchhouselaw8.awake -/
noncomputable def I_etchhouselaw8_awake : Inst := ⟨11, Try.f11, .two (.reg []) (.two (.reg [(5, 0)]) (.two (.reg []) (.leaf))), .nil, (.cons .flat .bool .nil)⟩
theorem it_etchhouselaw8_awake : InTab Try.prog I_etchhouselaw8_awake := ⟨Try.func11, by kernel_rfl, rfl⟩
noncomputable def T_etchhouselaw8_awake : Nat → Entry Try.prog := nth (Entry.no Try.f0) [E_drill_Way]
noncomputable def B_etchhouselaw8_awake  : Option (((Bool × Unit) × Unit)) :=
  some ((true, ()), ())
theorem B_etchhouselaw8_awake_eq (n : Nat)  : bodyE ty T_etchhouselaw8_awake n I_etchhouselaw8_awake () = B_etchhouselaw8_awake  := by kernel_rfl

end Go.Proofs.Ytmhhodnackfhmaa
namespace Go.Proofs.Ytmhhodnackfhmaa
open Go Go.VM
def S_etchhouselaw8_awake  : Bool := true
theorem ok_etchhouselaw8_awake  (hok : OkA I_etchhouselaw8_awake.args ()) : ∃ n, bodyE ty T_etchhouselaw8_awake n I_etchhouselaw8_awake () = some ((S_etchhouselaw8_awake, ()), ()) := ⟨0, by rw [B_etchhouselaw8_awake_eq]; rfl⟩
noncomputable def E_etchhouselaw8_awake : Entry Try.prog := Entry.of tok T_etchhouselaw8_awake I_etchhouselaw8_awake it_etchhouselaw8_awake (fun () => some ((S_etchhouselaw8_awake, ()), ())) (fun () r hok h => by cases h; exact ok_etchhouselaw8_awake  hok)

end Go.Proofs.Ytmhhodnackfhmaa
namespace Go.Proofs.Ytmhhodnackfhmaa
open Go Go.VM
/-! ### etchhouse.etchhouselaw8.DrillNoBitIsWorn -/
noncomputable def I_etchhouselaw8_DrillNoBitIsWorn : Inst := ⟨3, Try.f3, .two (.reg []) (.two (.reg [(2, 0)]) (.two (.two (.reg []) (.two (.two (.reg [(4, 1)]) (.leaf)) (.leaf))) (.two (.two (.reg []) (.one (.loop ⟨[(34, .pv i)], [], [0, 5, 32, 33], [5]⟩ (.two (.reg []) (.two (.two (.leaf) (.leaf)) (.two (.one (.two (.reg []) (.two (.reg []) (.two (.two (.reg []) (.one (.loop ⟨[(9, .pv i), (41, .pv i)], [], [0, 5, 7, 8, 10, 32, 33, 34, 39, 40], [5, 8]⟩ (.two (.reg []) (.two (.two (.leaf) (.leaf)) (.two (.one (.two (.reg []) (.two (.reg []) (.two (.reg []) (.leaf))))) (.reg []))))))) (.two (.reg []) (.two (.two (.reg []) (.one (.loop ⟨[(10, .pv i), (13, .pv i), (55, .pv i)], [], [0, 5, 7, 8, 9, 32, 33, 34, 53, 54], [5, 8]⟩ (.two (.reg []) (.two (.two (.leaf) (.leaf)) (.two (.one (.two (.reg []) (.two (.two (.reg []) (.two (.leaf) (.leaf))) (.two (.two (.reg []) (.two (.two (.reg []) (.leaf)) (.leaf))) (.two (.reg []) (.reg [])))))) (.reg []))))))) (.two (.two (.reg []) (.two (.two (.reg []) (.leaf)) (.leaf))) (.two (.reg []) (.one (.loop ⟨[(96, .pv i)], [], [0, 5, 8, 10, 32, 33, 34, 94, 95], [5, 8]⟩ (.two (.reg []) (.two (.two (.leaf) (.leaf)) (.two (.one (.two (.reg []) (.two (.reg []) (.two (.two (.reg []) (.leaf)) (.leaf))))) (.reg [])))))))))))))) (.reg []))))))) (.two (.reg [(0, 1)]) (.leaf))))), (.cons (.pv (.sl (.pair .str (.pair i (.pair i (.pair i .unit)))))) (.cons (.pv (.sl (.pair .str (.pair (.sl (.pair (.pair i (.pair i .unit)) (.pair i (.pair i (.pair .bool .unit))))) .unit)))) .nil)), (.cons .flat .bool .nil)⟩
theorem it_etchhouselaw8_DrillNoBitIsWorn : InTab Try.prog I_etchhouselaw8_DrillNoBitIsWorn := ⟨Try.func3, by kernel_rfl, rfl⟩
noncomputable def T_etchhouselaw8_DrillNoBitIsWorn : Nat → Entry Try.prog := nth (Entry.no Try.f0) [E_drill_Changes, E_etchhouselaw8_awake]
noncomputable def B_etchhouselaw8_DrillNoBitIsWorn (n : Nat) (x0 : List (ByteArray × (Int × (Int × (Int × Unit))))) (x1 : List (ByteArray × (List ((Int × (Int × Unit)) × (Int × (Int × (Bool × Unit)))) × Unit))) : Option (((Bool × Unit) × (Unit × (Unit × Unit)))) :=
  (bif (!(decide ((S_ChgF S_chkH x0 x1 = 0)))) then
    (bif decide (((((S_ChgL S_chkH x0 x1).length : Nat) : Int) = 0)) then
      some ((S_etchhouselaw8_awake, ()), ((), ((), ())))
    else
      some ((false, ()), ((), ((), ()))))
  else
    loopN (fun rec1 => fun
    | ((v1aa, ()), ()) =>
      (bif decide ((v1aa < ((x1.length : Nat) : Int))) then
        (bif inB v1aa x1.length then
          loopN (fun rec2 => fun
          | ((v2aa, (v2aba, ())), ()) =>
            (bif decide ((v2aba < ((x0.length : Nat) : Int))) then
              (bif inB v2aba x0.length then
                (bif decide ((ByteArray.toList ((x0.getD v2aba.toNat ((strOf []), (0, (0, (0, ()))))).1) = ByteArray.toList ((x1.getD v1aa.toNat ((strOf []), ([], ()))).1))) then
                  rec2 (((((x0.getD v2aba.toNat ((strOf []), (0, (0, (0, ()))))).2).2).1, (wrapI .i64 (v2aba + 1), ())), ())
                else
                  rec2 ((v2aa, (wrapI .i64 (v2aba + 1), ())), ()))
              else
                none)
            else
              loopN (fun rec3 => fun
              | ((v3aa, (v3aba, (v3abba, ()))), ()) =>
                (bif decide ((v3abba < (((S_ChgL S_chkH x0 x1).length : Nat) : Int))) then
                  (bif inB v3abba ((S_ChgL S_chkH x0 x1).length) then
                    (bif (!(decide (((((S_ChgL S_chkH x0 x1).getD v3abba.toNat ((strOf []), (0, (0, ())))).2).1 = v1aa)))) then
                      rec3 ((v3aa, (v3aba, (wrapI .i64 (v3abba + 1), ()))), ())
                    else
                      (bif (!(decide ((ByteArray.toList (((S_ChgL S_chkH x0 x1).getD v3abba.toNat ((strOf []), (0, (0, ())))).1) = ByteArray.toList ((x1.getD v1aa.toNat ((strOf []), ([], ()))).1))))) then
                        some ((false, ()), ((), ((), ())))
                      else
                        (bif decide ((v2aa < wrapI .i64 (((((S_ChgL S_chkH x0 x1).getD v3abba.toNat ((strOf []), (0, (0, ())))).2).2).1 - v3aba))) then
                          some ((false, ()), ((), ((), ())))
                        else
                          (bif decide ((((((S_ChgL S_chkH x0 x1).getD v3abba.toNat ((strOf []), (0, (0, ())))).2).2).1 ≤ v3aba)) then
                            some ((false, ()), ((), ((), ())))
                          else
                            rec3 ((wrapI .i64 (v3aa + 1), (((((S_ChgL S_chkH x0 x1).getD v3abba.toNat ((strOf []), (0, (0, ())))).2).2).1, (wrapI .i64 (v3abba + 1), ()))), ())))))
                  else
                    none)
                else
                  (bif decide ((v2aa < wrapI .i64 ((((((x1.getD v1aa.toNat ((strOf []), ([], ()))).2).1).length : Nat) : Int) - v3aba))) then
                    some ((false, ()), ((), ((), ())))
                  else
                    loopN (fun rec4 => fun
                    | ((v4aa, ()), ()) =>
                      (bif decide ((v4aa < ((x0.length : Nat) : Int))) then
                        (bif inB v4aa x0.length then
                          (bif decide ((ByteArray.toList ((x0.getD v4aa.toNat ((strOf []), (0, (0, (0, ()))))).1) = ByteArray.toList ((x1.getD v1aa.toNat ((strOf []), ([], ()))).1))) then
                            (bif decide ((((((x0.getD v4aa.toNat ((strOf []), (0, (0, (0, ()))))).2).2).2).1 < v3aa)) then
                              some ((false, ()), ((), ((), ())))
                            else
                              rec4 ((wrapI .i64 (v4aa + 1), ()), ()))
                          else
                            rec4 ((wrapI .i64 (v4aa + 1), ()), ()))
                        else
                          none)
                      else
                        rec1 ((wrapI .i64 (v1aa + 1), ()), ())))
                    n ((0, ()), ()))))
              n ((1, (0, (0, ()))), ())))
          n ((0, (0, ())), ())
        else
          none)
      else
        some ((S_etchhouselaw8_awake, ()), ((), ((), ())))))
    n ((0, ()), ()))
theorem B_etchhouselaw8_DrillNoBitIsWorn_eq (n : Nat) (x0 : List (ByteArray × (Int × (Int × (Int × Unit))))) (x1 : List (ByteArray × (List ((Int × (Int × Unit)) × (Int × (Int × (Bool × Unit)))) × Unit))) : bodyE ty T_etchhouselaw8_DrillNoBitIsWorn n I_etchhouselaw8_DrillNoBitIsWorn (x0, (x1, ())) = B_etchhouselaw8_DrillNoBitIsWorn n x0 x1 := by kernel_rfl

end Go.Proofs.Ytmhhodnackfhmaa
namespace Go.Proofs.Ytmhhodnackfhmaa
open Go Go.VM
theorem ok_etchhouselaw8_DrillNoBitIsWorn (x0 : List Mat) (x1 : List Job) (hok : OkA I_etchhouselaw8_DrillNoBitIsWorn.args (x0, x1, ())) : ∃ n, bodyE ty T_etchhouselaw8_DrillNoBitIsWorn n I_etchhouselaw8_DrillNoBitIsWorn (x0, x1, ()) = some ((true, ()), ((), (), ())) := ⟨(S_ChgL S_chkH x0 x1).length + 2101, by
  have hm : x0.length ≤ maxLen := hok.1.1
  have hl : x1.length ≤ maxLen := hok.2.1.1
  have ha : S_etchhouselaw8_awake = true := by decide
  rw [B_etchhouselaw8_DrillNoBitIsWorn_eq]
  unfold B_etchhouselaw8_DrillNoBitIsWorn
  rw [ha]
  cases hc : decide (S_ChgF S_chkH x0 x1 = 0) with
  | false =>
    have e : S_ChgL S_chkH x0 x1 = [] ∨ S_chkJ S_chkH x0 x1 = 0 := by
      unfold S_ChgL
      cases hJ : decide (S_chkJ S_chkH x0 x1 = 0) with
      | false => exact .inl rfl
      | true => exact .inr (of_decide_eq_true hJ)
    have e : S_ChgL S_chkH x0 x1 = [] := by
      rcases e with e | hJ
      · exact e
      · have hc := of_decide_eq_false hc
        unfold S_ChgF at hc
        unfold S_ChgL S_chgL
        rw [decide_eq_true hJ, cond_true] at hc ⊢
        have key : ∀ (j : List Job) (i : Nat) (o : List Chg), (chgGo x0 j i o).2 ≠ 0 → (chgGo x0 j i o).1 = [] := by
          intro j
          induction j with
          | nil => intro i o h; exact absurd rfl h
          | cons x r ih =>
            intro i o h
            simp only [chgGo] at h ⊢
            cases hd : decide ((S_matR x0 x.1).2.2.2.1 < ((chgN (S_matR x0 x.1).2.2.1 x.2.1.length + 1 : Nat) : Int)) with
            | true => rfl
            | false => rw [hd, cond_false] at h; exact ih _ _ h
        exact key x1 0 [] hc
    rw [e]; rfl
  | true =>
  have hF := of_decide_eq_true hc
  have hJ := chgF_J hF
  obtain ⟨hT, hj, _, hN⟩ := chkJ_ok hJ
  have hat := chkJ_at hJ
  have hF2 : (chgGo x0 x1 0 []).2 = 0 := by
    unfold S_ChgF at hF
    rw [decide_eq_true hJ, cond_true] at hF
    exact hF
  obtain ⟨hX, hst⟩ := chgGo_all x0 x1 0 [] hF2
  have eX : S_ChgL S_chkH x0 x1 = chgAll x0 x1 0 := by
    unfold S_ChgL S_chgL
    rw [decide_eq_true hJ, cond_true, hX]; rfl
  have hXl := chg_len hJ
  rw [eX] at hXl ⊢
  have hXm : (chgAll x0 x1 0).length ≤ maxLen := Nat.le_trans hXl (by decide)
  have hTl := (chkT_at hT).1
  simp only [Bool.not_true, cond_false]
  refine (loop_list (l := x1) (fun i (_ : Unit) => ((i, ()), ())) (fun x i _ => .inl ()) (fun _ => some ((true, ()), ((), (), ()))) (fun i h s rec => ?_) (fun s rec => by simp only [lt_self, cond_false]) (show x1.length < _ by omega) ()).trans ?_
  · obtain ⟨k0, hk1, hk2, hk3, hk4, hk5⟩ := tool_ok hT (hat i h).1
    have hle := chkH_le _ (hat i h).2.1
    have hcn := chgN_le (S_matR x0 x1[i].1).2.2.1 x1[i].2.1.length
    simp only [lt_nat h, inB_nat h, getD_at h, succ64 h hl, cond_true, Int.toNat_natCast, str_dec]
    refine (loop_fold (l := x0) (fun q (t : Int) => ((t, (q, ())), ())) (fun _ _ => True) (lifeG x1[i].1) _ (fun q hq t _ => ⟨trivial, fun rec2 => ?_⟩) (fun t _ rec2 => by simp only [lt_self, cond_false]; exact rfl) (show x0.length < _ by omega) (s := 0) trivial).trans ?_
    · simp only [lt_nat hq, inB_nat hq, getD_at hq, succ64 hq hm, cond_true, Int.toNat_natCast, lifeG]
      cases decide (x0[q].1 = x1[i].1) <;> rfl
    · rw [life_fold hT (hat i h).1]
      refine (loop_list (l := chgAll x0 x1 0) (fun q (s : Int × Int) => ((s.1, (s.2, (q, ()))), ())) (wornB i x1[i].1 (S_matR x0 x1[i].1).2.2.1 (some ((false, ()), ((), (), ())))) _ (fun q hq s rec3 => ?_) (fun s rec3 => by simp only [lt_self, cond_false]; exact rfl) (show (chgAll x0 x1 0).length < _ by omega) (1, 0)).trans ?_
      · simp only [lt_nat hq, inB_nat hq, getD_at hq, succ64 hq hXm, cond_true, Int.toNat_natCast]
        unfold wornB
        cases decide ((chgAll x0 x1 0)[q].2.1 = (i : Int)) with
        | false => rfl
        | true =>
        cases decide ((chgAll x0 x1 0)[q].1 = x1[i].1) with
        | false => rfl
        | true =>
        cases decide ((S_matR x0 x1[i].1).2.2.1 < wrapI .i64 ((chgAll x0 x1 0)[q].2.2.1 - s.2)) with
        | true => rfl
        | false => cases decide ((chgAll x0 x1 0)[q].2.2.1 ≤ s.2) <;> rfl
      · refine (worn_job h hk4 hle).trans ?_
        have hr := worn_rest hk4.1 x1[i].2.1.length
        have hcl : chgN (S_matR x0 x1[i].1).2.2.1 x1[i].2.1.length * (S_matR x0 x1[i].1).2.2.1.toNat ≤ 2000 * 2000 := Nat.mul_le_mul (by omega) (by omega)
        simp only
        rw [wrap64 (n := ((x1[i].2.1.length : Nat) : Int) - _) (by omega) (by omega), decide_eq_false (show ¬ (S_matR x0 x1[i].1).2.2.1 < ((x1[i].2.1.length : Nat) : Int) - ((chgN (S_matR x0 x1[i].1).2.2.1 x1[i].2.1.length * (S_matR x0 x1[i].1).2.2.1.toNat : Nat) : Int) by omega), cond_false]
        have hs := hst x1[i] (List.getElem_mem h)
        refine (loop_list (l := x0) (fun q (_ : Unit) => ((q, ()), ())) (fun y q _ => .inl ()) (fun _ => rec ((((i + 1 : Nat) : Int), ()), ())) (fun q hq s rec4 => ?_) (fun s rec4 => by simp only [lt_self, cond_false]) (show x0.length < _ by omega) ()).trans ?_
        · simp only [lt_nat hq, inB_nat hq, getD_at hq, succ64 hq hm, cond_true, Int.toNat_natCast]
          cases hn : decide (x0[q].1 = x1[i].1) with
          | false => rfl
          | true =>
            have e := tool_uniq hT (List.getElem_mem hq)
            rw [of_decide_eq_true hn] at e
            rw [← e, decide_eq_false (show ¬ (S_matR x0 x1[i].1).2.2.2.1 < ((1 + chgN (S_matR x0 x1[i].1).2.2.1 x1[i].2.1.length : Nat) : Int) by omega)]
            rfl
        · have key : ∀ (l : List Mat) (i : Nat) (D : Option ((Bool × Unit) × Unit × Unit × Unit)), goL (fun (y : Mat) (q : Nat) (_ : Unit) => (.inl () : Unit ⊕ Option ((Bool × Unit) × Unit × Unit × Unit))) (fun _ => D) l i () = D := by
            intro l
            induction l with
            | nil => intro i D; rfl
            | cons a r ih => intro i D; exact ih (i + 1) D
          exact key x0 0 _
  · have key : ∀ (l : List Job) (i : Nat) (D : Option ((Bool × Unit) × Unit × Unit × Unit)), goL (fun (y : Job) (q : Nat) (_ : Unit) => (.inl () : Unit ⊕ Option ((Bool × Unit) × Unit × Unit × Unit))) (fun _ => D) l i () = D := by
      intro l
      induction l with
      | nil => intro i D; rfl
      | cons a r ih => intro i D; exact ih (i + 1) D
    exact key x1 0 _⟩
noncomputable def E_etchhouselaw8_DrillNoBitIsWorn : Entry Try.prog := Entry.of tok T_etchhouselaw8_DrillNoBitIsWorn I_etchhouselaw8_DrillNoBitIsWorn it_etchhouselaw8_DrillNoBitIsWorn (fun (x0, x1, ()) => some ((true, ()), ((), (), ()))) (fun (x0, x1, ()) r hok h => by cases h; exact ok_etchhouselaw8_DrillNoBitIsWorn x0 x1 hok)

end Go.Proofs.Ytmhhodnackfhmaa
namespace Go.Proofs.Ytmhhodnackfhmaa
open Go Go.VM
namespace LDrillNoBitIsWorn
theorem law (x0 : List Mat) (x1 : List Job) : (some ((true, ()), ((), ((), ()))) : Option ((Bool × Unit) × Unit × Unit × Unit)) = some ((true, ()), ((), ((), ()))) := rfl

end LDrillNoBitIsWorn
end Go.Proofs.Ytmhhodnackfhmaa
