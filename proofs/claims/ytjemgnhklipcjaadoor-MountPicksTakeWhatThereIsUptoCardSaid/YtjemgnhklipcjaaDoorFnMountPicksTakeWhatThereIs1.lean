/- What the functions that MountPicksTakeWhatThereIs reaches compute, part 1; and that the law answers true, for all arguments that a row reads. -/
import Derived.Test.YtjemgnhklipcjaaDoorProg
import Derived.Test.YtjemgnhklipcjaaDoorVmMountPicksTakeWhatThereIs5
namespace Go.Proofs.YtjemgnhklipcjaaDoor
open Go Go.VM
abbrev i : Ty := .int .i64
def tab : List (Nat × Ty) := [(22, (.sl (.pair .str (.pair i (.pair i (.pair i (.pair .str .unit))))))), (95, (.pair .str (.pair i (.pair i (.pair i (.pair .str .unit)))))), (9, .str), (3, i), (23, (.sl (.pair .str (.pair .str (.pair (.pair i (.pair i .unit)) (.pair i (.pair .bool .unit))))))), (28, (.pair .str (.pair .str (.pair (.pair i (.pair i .unit)) (.pair i (.pair .bool .unit)))))), (25, (.pair i (.pair i .unit))), (4, .bool), (48, (.sl i)), (31, i), (117, (.sl (.sl .bool))), (102, (.sl .bool)), (30, (.sl (.pair i (.pair i (.pair i .unit))))), (36, (.pair i (.pair i (.pair i .unit)))), (5, (.int .u8)), (140, (.int .u64)), (116, (.sl .str)), (39, (.pair i (.pair i (.pair i (.pair i .unit))))), (43, (.sl (.pair i (.pair .str (.pair i .unit))))), (52, (.pair i (.pair .str (.pair i .unit)))), (44, (.sl (.pair .str (.pair .str .unit)))), (121, (.pair .str (.pair .str .unit))), (45, (.sl (.pair i (.pair .str (.pair .str (.pair i .unit)))))), (50, (.pair i (.pair .str (.pair .str (.pair i .unit)))))]
def ty : Types := mkTypes tab [4, 36, 121, 39, 50, 52]
theorem tok : TyOK Tryd.prog ty := tyok_of_check (by kernel_rfl)
end Go.Proofs.YtjemgnhklipcjaaDoor
namespace Go.Proofs.YtjemgnhklipcjaaDoor
open Go Go.VM
noncomputable def I_bytealg_IndexByteString : Inst := ⟨127, Tryd.f127, .leaf, pvs [.str, .int .u8], .cons .flat (.int .i64) .nil⟩
noncomputable def E_bytealg_IndexByteString : Entry Tryd.prog := Entry.ext I_bytealg_IndexByteString idxF (ext_idx Tryd.func127 (by kernel_rfl) rfl (by kernel_rfl) (by kernel_rfl))

end Go.Proofs.YtjemgnhklipcjaaDoor
namespace Go.Proofs.YtjemgnhklipcjaaDoor
open Go Go.VM
/-! ### internal.stringslite.IndexByte -/
noncomputable def I_stringslite_IndexByte : Inst := ⟨111, Tryd.f111, .two (.reg []) (.two (.reg [(2, 0)]) (.leaf)), (.cons (.pv .str) (.cons (.pv (.int .u8)) .nil)), (.cons .flat i .nil)⟩
theorem it_stringslite_IndexByte : InTab Tryd.prog I_stringslite_IndexByte := ⟨Tryd.func111, by kernel_rfl, rfl⟩
noncomputable def T_stringslite_IndexByte : Nat → Entry Tryd.prog := nth (Entry.no Tryd.f0) [E_bytealg_IndexByteString]
noncomputable def B_stringslite_IndexByte (x0 : ByteArray) (x1 : Int) : Option (((Int × Unit) × (Unit × (Unit × Unit)))) :=
  some ((S_idx x0 x1, ()), ((), ((), ())))
theorem B_stringslite_IndexByte_eq (n : Nat) (x0 : ByteArray) (x1 : Int) : bodyE ty T_stringslite_IndexByte n I_stringslite_IndexByte (x0, (x1, ())) = B_stringslite_IndexByte x0 x1 := by kernel_rfl

end Go.Proofs.YtjemgnhklipcjaaDoor
namespace Go.Proofs.YtjemgnhklipcjaaDoor
open Go Go.VM
def S_stringslite_IndexByte (x0 : ByteArray) (x1 : Int) : Int := S_idx x0 x1
theorem ok_stringslite_IndexByte (x0 : ByteArray) (x1 : Int) (hok : OkA I_stringslite_IndexByte.args (x0, x1, ())) : ∃ n, bodyE ty T_stringslite_IndexByte n I_stringslite_IndexByte (x0, x1, ()) = some (((S_stringslite_IndexByte x0 x1), ()), ((), (), ())) := ⟨0, by rw [B_stringslite_IndexByte_eq]; rfl⟩
noncomputable def E_stringslite_IndexByte : Entry Tryd.prog := Entry.of tok T_stringslite_IndexByte I_stringslite_IndexByte it_stringslite_IndexByte (fun (x0, x1, ()) => some (((S_stringslite_IndexByte x0 x1), ()), ((), (), ()))) (fun (x0, x1, ()) r hok h => by cases h; exact ok_stringslite_IndexByte x0 x1 hok)

end Go.Proofs.YtjemgnhklipcjaaDoor
namespace Go.Proofs.YtjemgnhklipcjaaDoor
open Go Go.VM
/-! ### strings.IndexByte -/
noncomputable def I_strings_IndexByte : Inst := ⟨98, Tryd.f98, .two (.reg []) (.two (.reg [(2, 0)]) (.leaf)), (.cons (.pv .str) (.cons (.pv (.int .u8)) .nil)), (.cons .flat i .nil)⟩
theorem it_strings_IndexByte : InTab Tryd.prog I_strings_IndexByte := ⟨Tryd.func98, by kernel_rfl, rfl⟩
noncomputable def T_strings_IndexByte : Nat → Entry Tryd.prog := nth (Entry.no Tryd.f0) [E_stringslite_IndexByte]
noncomputable def B_strings_IndexByte (x0 : ByteArray) (x1 : Int) : Option (((Int × Unit) × (Unit × (Unit × Unit)))) :=
  some ((S_stringslite_IndexByte x0 x1, ()), ((), ((), ())))
theorem B_strings_IndexByte_eq (n : Nat) (x0 : ByteArray) (x1 : Int) : bodyE ty T_strings_IndexByte n I_strings_IndexByte (x0, (x1, ())) = B_strings_IndexByte x0 x1 := by kernel_rfl

end Go.Proofs.YtjemgnhklipcjaaDoor
namespace Go.Proofs.YtjemgnhklipcjaaDoor
open Go Go.VM
def S_strings_IndexByte (x0 : ByteArray) (x1 : Int) : Int := S_stringslite_IndexByte x0 x1
theorem ok_strings_IndexByte (x0 : ByteArray) (x1 : Int) (hok : OkA I_strings_IndexByte.args (x0, x1, ())) : ∃ n, bodyE ty T_strings_IndexByte n I_strings_IndexByte (x0, x1, ()) = some (((S_strings_IndexByte x0 x1), ()), ((), (), ())) := ⟨0, by rw [B_strings_IndexByte_eq]; rfl⟩
noncomputable def E_strings_IndexByte : Entry Tryd.prog := Entry.of tok T_strings_IndexByte I_strings_IndexByte it_strings_IndexByte (fun (x0, x1, ()) => some (((S_strings_IndexByte x0 x1), ()), ((), (), ()))) (fun (x0, x1, ()) r hok h => by cases h; exact ok_strings_IndexByte x0 x1 hok)

end Go.Proofs.YtjemgnhklipcjaaDoor
namespace Go.Proofs.YtjemgnhklipcjaaDoor
open Go Go.VM
/-! ### etchhouse.netlist.IsWord -/
noncomputable def I_netlist_IsWord : Inst := ⟨74, Tryd.f74, .two (.reg []) (.two (.two (.reg []) (.one (.loop ⟨[(7, .pv i)], [], [0, 6], []⟩ (.two (.reg []) (.two (.two (.leaf) (.leaf)) (.two (.one (.two (.reg []) (.two (.reg []) (.two (.reg [(24, 0)]) (.two (.two (.reg []) (.leaf)) (.leaf)))))) (.reg []))))))) (.two (.reg []) (.leaf))), (.cons (.pv .str) .nil), (.cons .flat .bool .nil)⟩
theorem it_netlist_IsWord : InTab Tryd.prog I_netlist_IsWord := ⟨Tryd.func74, by kernel_rfl, rfl⟩
noncomputable def T_netlist_IsWord : Nat → Entry Tryd.prog := nth (Entry.no Tryd.f0) [E_strings_IndexByte]
noncomputable def B_netlist_IsWord (n : Nat) (x0 : ByteArray) : Option (((Bool × Unit) × (Unit × Unit))) :=
  loopN (fun rec1 => fun
  | ((v1aa, ()), ()) =>
    (bif decide ((v1aa < ((ByteArray.size x0 : Nat) : Int))) then
      (bif inB v1aa (ByteArray.size x0) then
        (bif decide ((strAt x0 v1aa.toNat < 65)) then
          (bif decide ((strAt x0 v1aa.toNat < 97)) then
            (bif decide ((strAt x0 v1aa.toNat < 48)) then
              (bif decide ((S_strings_IndexByte (strOf [95, 43, 45, 35]) (strAt x0 v1aa.toNat) < 0)) then
                some ((false, ()), ((), ()))
              else
                rec1 ((wrapI .i64 (v1aa + 1), ()), ()))
            else
              (bif decide ((57 < strAt x0 v1aa.toNat)) then
                (bif decide ((S_strings_IndexByte (strOf [95, 43, 45, 35]) (strAt x0 v1aa.toNat) < 0)) then
                  some ((false, ()), ((), ()))
                else
                  rec1 ((wrapI .i64 (v1aa + 1), ()), ()))
              else
                rec1 ((wrapI .i64 (v1aa + 1), ()), ())))
          else
            (bif decide ((122 < strAt x0 v1aa.toNat)) then
              (bif decide ((strAt x0 v1aa.toNat < 48)) then
                (bif decide ((S_strings_IndexByte (strOf [95, 43, 45, 35]) (strAt x0 v1aa.toNat) < 0)) then
                  some ((false, ()), ((), ()))
                else
                  rec1 ((wrapI .i64 (v1aa + 1), ()), ()))
              else
                (bif decide ((57 < strAt x0 v1aa.toNat)) then
                  (bif decide ((S_strings_IndexByte (strOf [95, 43, 45, 35]) (strAt x0 v1aa.toNat) < 0)) then
                    some ((false, ()), ((), ()))
                  else
                    rec1 ((wrapI .i64 (v1aa + 1), ()), ()))
                else
                  rec1 ((wrapI .i64 (v1aa + 1), ()), ())))
            else
              rec1 ((wrapI .i64 (v1aa + 1), ()), ())))
        else
          (bif decide ((90 < strAt x0 v1aa.toNat)) then
            (bif decide ((strAt x0 v1aa.toNat < 97)) then
              (bif decide ((strAt x0 v1aa.toNat < 48)) then
                (bif decide ((S_strings_IndexByte (strOf [95, 43, 45, 35]) (strAt x0 v1aa.toNat) < 0)) then
                  some ((false, ()), ((), ()))
                else
                  rec1 ((wrapI .i64 (v1aa + 1), ()), ()))
              else
                (bif decide ((57 < strAt x0 v1aa.toNat)) then
                  (bif decide ((S_strings_IndexByte (strOf [95, 43, 45, 35]) (strAt x0 v1aa.toNat) < 0)) then
                    some ((false, ()), ((), ()))
                  else
                    rec1 ((wrapI .i64 (v1aa + 1), ()), ()))
                else
                  rec1 ((wrapI .i64 (v1aa + 1), ()), ())))
            else
              (bif decide ((122 < strAt x0 v1aa.toNat)) then
                (bif decide ((strAt x0 v1aa.toNat < 48)) then
                  (bif decide ((S_strings_IndexByte (strOf [95, 43, 45, 35]) (strAt x0 v1aa.toNat) < 0)) then
                    some ((false, ()), ((), ()))
                  else
                    rec1 ((wrapI .i64 (v1aa + 1), ()), ()))
                else
                  (bif decide ((57 < strAt x0 v1aa.toNat)) then
                    (bif decide ((S_strings_IndexByte (strOf [95, 43, 45, 35]) (strAt x0 v1aa.toNat) < 0)) then
                      some ((false, ()), ((), ()))
                    else
                      rec1 ((wrapI .i64 (v1aa + 1), ()), ()))
                  else
                    rec1 ((wrapI .i64 (v1aa + 1), ()), ())))
              else
                rec1 ((wrapI .i64 (v1aa + 1), ()), ())))
          else
            rec1 ((wrapI .i64 (v1aa + 1), ()), ())))
      else
        none)
    else
      (bif decide ((1 ≤ ((ByteArray.size x0 : Nat) : Int))) then
        some ((decide ((((ByteArray.size x0 : Nat) : Int) ≤ 40)), ()), ((), ()))
      else
        some ((false, ()), ((), ())))))
  n ((0, ()), ())
theorem B_netlist_IsWord_eq (n : Nat) (x0 : ByteArray) : bodyE ty T_netlist_IsWord n I_netlist_IsWord (x0, ()) = B_netlist_IsWord n x0 := by kernel_rfl

end Go.Proofs.YtjemgnhklipcjaaDoor
namespace Go.Proofs.YtjemgnhklipcjaaDoor
open Go Go.VM
theorem ok_netlist_IsWord (x0 : ByteArray) (hok : OkA I_netlist_IsWord.args (x0, ())) : ∃ n, bodyE ty T_netlist_IsWord n I_netlist_IsWord (x0, ()) = some ((S_word x0, ()), ((), ())) := ⟨ByteArray.size x0 + 1, by
  have hl : ByteArray.size x0 ≤ maxLen := hok.1
  rw [B_netlist_IsWord_eq]
  unfold B_netlist_IsWord S_word
  refine (loop_list (l := x0.data.toList) (fun i (_ : Unit) => ((i, ()), ())) (fun a i _ => bif okB (a.toNat : Int) then .inl () else .inr (some ((false, ()), ((), ())))) (fun _ => some ((decide (1 ≤ ((ByteArray.size x0 : Nat) : Int)) && decide (((ByteArray.size x0 : Nat) : Int) ≤ 40), ()), ((), ()))) (fun i h s rec => ?_) (fun s rec => ?_) (Nat.lt_succ_self _) ()).trans ?_
  · have h' : i < ByteArray.size x0 := h
    simp only [lt_nat h', inB_nat h', strAt_nat h, succ64 h' hl, cond_true]
    generalize (x0.data.toList[i].toNat : Int) = c
    unfold okB
    simp only [show ∀ a b, S_strings_IndexByte a b = S_idx a b from fun _ _ => rfl]
    cases decide (c < 65) <;> cases decide (90 < c) <;> cases decide (c < 97) <;> cases decide (122 < c) <;> cases decide (c < 48) <;> cases decide (57 < c) <;> cases decide (S_idx (strOf [95, 43, 45, 35]) c < 0) <;> rfl
  · rw [← size_list]
    simp only [lt_self, cond_false]
    cases decide (1 ≤ ((ByteArray.size x0 : Nat) : Int)) <;> rfl
  · rw [all_go]
    cases x0.data.toList.all fun b => okB (b.toNat : Int) <;> rfl⟩
noncomputable def E_netlist_IsWord : Entry Tryd.prog := Entry.of tok T_netlist_IsWord I_netlist_IsWord it_netlist_IsWord (fun (x0, ()) => some ((S_word x0, ()), ((), ()))) (fun (x0, ()) r hok h => by cases h; exact ok_netlist_IsWord x0 hok)

end Go.Proofs.YtjemgnhklipcjaaDoor
namespace Go.Proofs.YtjemgnhklipcjaaDoor
open Go Go.VM
/-! ### etchhouse.mount.within -/
noncomputable def I_mount_within : Inst := ⟨47, Tryd.f47, .two (.reg []) (.two (.reg []) (.leaf)), (.cons (.pv i) (.cons (.pv i) (.cons (.pv i) .nil))), (.cons .flat .bool .nil)⟩
theorem it_mount_within : InTab Tryd.prog I_mount_within := ⟨Tryd.func47, by kernel_rfl, rfl⟩
noncomputable def T_mount_within : Nat → Entry Tryd.prog := nth (Entry.no Tryd.f0) []
noncomputable def B_mount_within (x0 : Int) (x1 : Int) (x2 : Int) : Option (((Bool × Unit) × (Unit × (Unit × (Unit × Unit))))) :=
  (bif decide ((x1 ≤ x0)) then
    some ((decide ((x0 ≤ x2)), ()), ((), ((), ((), ()))))
  else
    some ((false, ()), ((), ((), ((), ())))))
theorem B_mount_within_eq (n : Nat) (x0 : Int) (x1 : Int) (x2 : Int) : bodyE ty T_mount_within n I_mount_within (x0, (x1, (x2, ()))) = B_mount_within x0 x1 x2 := by kernel_rfl

end Go.Proofs.YtjemgnhklipcjaaDoor
namespace Go.Proofs.YtjemgnhklipcjaaDoor
open Go Go.VM
theorem ok_mount_within (x0 x1 x2 : Int) (hok : OkA I_mount_within.args (x0, x1, x2, ())) : ∃ n, bodyE ty T_mount_within n I_mount_within (x0, x1, x2, ()) = some ((S_within x0 x1 x2, ()), ((), (), (), ())) := ⟨0, by
  rw [B_mount_within_eq]; unfold B_mount_within S_within; cases decide (x1 ≤ x0) <;> rfl⟩
noncomputable def E_mount_within : Entry Tryd.prog := Entry.of tok T_mount_within I_mount_within it_mount_within (fun (x0, x1, x2, ()) => some ((S_within x0 x1 x2, ()), ((), (), (), ()))) (fun (x0, x1, x2, ()) r hok h => by cases h; exact ok_mount_within x0 x1 x2 hok)

end Go.Proofs.YtjemgnhklipcjaaDoor
namespace Go.Proofs.YtjemgnhklipcjaaDoor
open Go Go.VM
/-! ### etchhouse.mount.CheckBodies -/
noncomputable def I_mount_CheckBodies : Inst := ⟨33, Tryd.f33, .two (.reg []) (.two (.two (.reg []) (.two (.two (.reg []) (.leaf)) (.leaf))) (.two (.two (.reg []) (.one (.loop ⟨[(10, .pv i)], [], [0, 8, 9], []⟩ (.two (.reg []) (.two (.two (.leaf) (.leaf)) (.two (.one (.two (.reg []) (.one (.two (.reg [(2, 0)]) (.two (.two (.reg []) (.leaf)) (.two (.reg [(2, 1), (7, 1), (13, 1)]) (.two (.two (.reg []) (.leaf)) (.two (.reg [(2, 0)]) (.two (.two (.reg []) (.leaf)) (.two (.draw [] [0, 1, 2, 3, 4, 5, 6, 7, 8, 9, 10, 11, 12, 13] [4]) (.two (.two (.reg []) (.leaf)) (.leaf)))))))))))) (.reg []))))))) (.two (.reg []) (.leaf)))), (.cons (.pv (.sl (.pair .str (.pair i (.pair i (.pair i (.pair .str .unit))))))) .nil), (.cons .flat i .nil)⟩
theorem it_mount_CheckBodies : InTab Tryd.prog I_mount_CheckBodies := ⟨Tryd.func33, by kernel_rfl, rfl⟩
noncomputable def T_mount_CheckBodies : Nat → Entry Tryd.prog := nth (Entry.no Tryd.f0) [E_netlist_IsWord, E_mount_within]
noncomputable def B_mount_CheckBodies (n : Nat) (x0 : List (ByteArray × (Int × (Int × (Int × (ByteArray × Unit)))))) : Option (((Int × Unit) × (Unit × Unit))) :=
  (bif decide ((200 < ((x0.length : Nat) : Int))) then
    some ((2, ()), ((), ()))
  else
    loopN (fun rec1 => fun
    | ((v1aa, ()), ()) =>
      (bif decide ((v1aa < ((x0.length : Nat) : Int))) then
        (bif inB v1aa x0.length then
          (bif (!(S_word ((x0.getD v1aa.toNat ((strOf []), (0, (0, (0, ((strOf []), ())))))).1))) then
            some ((5, ()), ((), ()))
          else
            (bif (!(S_within (((x0.getD v1aa.toNat ((strOf []), (0, (0, (0, ((strOf []), ())))))).2).1) 1 100000)) then
              some ((1, ()), ((), ()))
            else
              (bif (!(S_within ((((x0.getD v1aa.toNat ((strOf []), (0, (0, (0, ((strOf []), ())))))).2).2).1) 1 100000)) then
                some ((1, ()), ((), ()))
              else
                (bif (!(S_within (((((x0.getD v1aa.toNat ((strOf []), (0, (0, (0, ((strOf []), ())))))).2).2).2).1) 1 100000)) then
                  some ((1, ()), ((), ()))
                else
                  (bif (!(S_word ((((((x0.getD v1aa.toNat ((strOf []), (0, (0, (0, ((strOf []), ())))))).2).2).2).2).1))) then
                    some ((5, ()), ((), ()))
                  else
                    (bif decide ((0 < v1aa)) then
                      (bif inB (wrapI .i64 (v1aa - 1)) x0.length then
                        (bif (Op.bytesLess (ByteArray.toList ((x0.getD v1aa.toNat ((strOf []), (0, (0, (0, ((strOf []), ())))))).1)) (ByteArray.toList ((x0.getD ((wrapI .i64 (v1aa - 1)).toNat) ((strOf []), (0, (0, (0, ((strOf []), ())))))).1)) || decide ((ByteArray.toList ((x0.getD v1aa.toNat ((strOf []), (0, (0, (0, ((strOf []), ())))))).1) = ByteArray.toList ((x0.getD ((wrapI .i64 (v1aa - 1)).toNat) ((strOf []), (0, (0, (0, ((strOf []), ())))))).1)))) then
                          some ((8, ()), ((), ()))
                        else
                          rec1 ((wrapI .i64 (v1aa + 1), ()), ()))
                      else
                        none)
                    else
                      rec1 ((wrapI .i64 (v1aa + 1), ()), ())))))))
        else
          none)
      else
        some ((0, ()), ((), ()))))
    n ((0, ()), ()))
theorem B_mount_CheckBodies_eq (n : Nat) (x0 : List (ByteArray × (Int × (Int × (Int × (ByteArray × Unit)))))) : bodyE ty T_mount_CheckBodies n I_mount_CheckBodies (x0, ()) = B_mount_CheckBodies n x0 := by kernel_rfl

end Go.Proofs.YtjemgnhklipcjaaDoor
namespace Go.Proofs.YtjemgnhklipcjaaDoor
open Go Go.VM
theorem ok_mount_CheckBodies (x0 : List Bod) (hok : OkA I_mount_CheckBodies.args (x0, ())) : ∃ n, bodyE ty T_mount_CheckBodies n I_mount_CheckBodies (x0, ()) = some ((S_bods x0, ()), ((), ())) := ⟨x0.length + 1, by
  have hl : x0.length ≤ maxLen := hok.1.1
  rw [B_mount_CheckBodies_eq]
  unfold B_mount_CheckBodies
  exact bods_loop (R := fun a => some ((a, ()), ((), ()))) hl (Nat.lt_succ_self _)⟩
noncomputable def E_mount_CheckBodies : Entry Tryd.prog := Entry.of tok T_mount_CheckBodies I_mount_CheckBodies it_mount_CheckBodies (fun (x0, ()) => some ((S_bods x0, ()), ((), ()))) (fun (x0, ()) r hok h => by cases h; exact ok_mount_CheckBodies x0 hok)

end Go.Proofs.YtjemgnhklipcjaaDoor
namespace Go.Proofs.YtjemgnhklipcjaaDoor
open Go Go.VM
noncomputable def I_bytealg_abigen_runtime_cmpstring : Inst := ⟨108, Tryd.f108, .leaf, pvs [.str, .str], .cons .flat (.int .i64) .nil⟩
noncomputable def E_bytealg_abigen_runtime_cmpstring : Entry Tryd.prog := Entry.ext I_bytealg_abigen_runtime_cmpstring cmpF (ext_cmp Tryd.func108 (by kernel_rfl) rfl (by kernel_rfl) (by kernel_rfl))

end Go.Proofs.YtjemgnhklipcjaaDoor
namespace Go.Proofs.YtjemgnhklipcjaaDoor
open Go Go.VM
/-! ### internal.bytealg.CompareString -/
noncomputable def I_bytealg_CompareString : Inst := ⟨94, Tryd.f94, .two (.reg []) (.two (.reg [(2, 0)]) (.leaf)), (.cons (.pv .str) (.cons (.pv .str) .nil)), (.cons .flat i .nil)⟩
theorem it_bytealg_CompareString : InTab Tryd.prog I_bytealg_CompareString := ⟨Tryd.func94, by kernel_rfl, rfl⟩
noncomputable def T_bytealg_CompareString : Nat → Entry Tryd.prog := nth (Entry.no Tryd.f0) [E_bytealg_abigen_runtime_cmpstring]
noncomputable def B_bytealg_CompareString (x0 : ByteArray) (x1 : ByteArray) : Option (((Int × Unit) × (Unit × (Unit × Unit)))) :=
  some ((S_cmps x0 x1, ()), ((), ((), ())))
theorem B_bytealg_CompareString_eq (n : Nat) (x0 : ByteArray) (x1 : ByteArray) : bodyE ty T_bytealg_CompareString n I_bytealg_CompareString (x0, (x1, ())) = B_bytealg_CompareString x0 x1 := by kernel_rfl

end Go.Proofs.YtjemgnhklipcjaaDoor
namespace Go.Proofs.YtjemgnhklipcjaaDoor
open Go Go.VM
def S_bytealg_CompareString (x0 : ByteArray) (x1 : ByteArray) : Int := S_cmps x0 x1
theorem ok_bytealg_CompareString (x0 : ByteArray) (x1 : ByteArray) (hok : OkA I_bytealg_CompareString.args (x0, x1, ())) : ∃ n, bodyE ty T_bytealg_CompareString n I_bytealg_CompareString (x0, x1, ()) = some (((S_bytealg_CompareString x0 x1), ()), ((), (), ())) := ⟨0, by rw [B_bytealg_CompareString_eq]; rfl⟩
noncomputable def E_bytealg_CompareString : Entry Tryd.prog := Entry.of tok T_bytealg_CompareString I_bytealg_CompareString it_bytealg_CompareString (fun (x0, x1, ()) => some (((S_bytealg_CompareString x0 x1), ()), ((), (), ()))) (fun (x0, x1, ()) r hok h => by cases h; exact ok_bytealg_CompareString x0 x1 hok)

end Go.Proofs.YtjemgnhklipcjaaDoor
namespace Go.Proofs.YtjemgnhklipcjaaDoor
open Go Go.VM
/-! ### strings.Compare -/
noncomputable def I_strings_Compare : Inst := ⟨65, Tryd.f65, .two (.reg []) (.two (.reg [(2, 0)]) (.leaf)), (.cons (.pv .str) (.cons (.pv .str) .nil)), (.cons .flat i .nil)⟩
theorem it_strings_Compare : InTab Tryd.prog I_strings_Compare := ⟨Tryd.func65, by kernel_rfl, rfl⟩
noncomputable def T_strings_Compare : Nat → Entry Tryd.prog := nth (Entry.no Tryd.f0) [E_bytealg_CompareString]
noncomputable def B_strings_Compare (x0 : ByteArray) (x1 : ByteArray) : Option (((Int × Unit) × (Unit × (Unit × Unit)))) :=
  some ((S_bytealg_CompareString x0 x1, ()), ((), ((), ())))
theorem B_strings_Compare_eq (n : Nat) (x0 : ByteArray) (x1 : ByteArray) : bodyE ty T_strings_Compare n I_strings_Compare (x0, (x1, ())) = B_strings_Compare x0 x1 := by kernel_rfl

end Go.Proofs.YtjemgnhklipcjaaDoor
namespace Go.Proofs.YtjemgnhklipcjaaDoor
open Go Go.VM
def S_strings_Compare (x0 : ByteArray) (x1 : ByteArray) : Int := S_bytealg_CompareString x0 x1
theorem ok_strings_Compare (x0 : ByteArray) (x1 : ByteArray) (hok : OkA I_strings_Compare.args (x0, x1, ())) : ∃ n, bodyE ty T_strings_Compare n I_strings_Compare (x0, x1, ()) = some (((S_strings_Compare x0 x1), ()), ((), (), ())) := ⟨0, by rw [B_strings_Compare_eq]; rfl⟩
noncomputable def E_strings_Compare : Entry Tryd.prog := Entry.of tok T_strings_Compare I_strings_Compare it_strings_Compare (fun (x0, x1, ()) => some (((S_strings_Compare x0 x1), ()), ((), (), ()))) (fun (x0, x1, ()) r hok h => by cases h; exact ok_strings_Compare x0 x1 hok)

end Go.Proofs.YtjemgnhklipcjaaDoor
namespace Go.Proofs.YtjemgnhklipcjaaDoor
open Go Go.VM
/-! ### etchhouse.mount.bodyOf$1 -/
noncomputable def I_mount_bodyOf_1 : Inst := ⟨92, Tryd.f92, .two (.reg []) (.two (.reg [(3, 0)]) (.leaf)), (.cons (.pv (.pair .str (.pair i (.pair i (.pair i (.pair .str .unit)))))) (.cons (.pv .str) .nil)), (.cons .flat i .nil)⟩
theorem it_mount_bodyOf_1 : InTab Tryd.prog I_mount_bodyOf_1 := ⟨Tryd.func92, by kernel_rfl, rfl⟩
noncomputable def T_mount_bodyOf_1 : Nat → Entry Tryd.prog := nth (Entry.no Tryd.f0) [E_strings_Compare]
noncomputable def B_mount_bodyOf_1 (x0 : (ByteArray × (Int × (Int × (Int × (ByteArray × Unit)))))) (x1 : ByteArray) : Option (((Int × Unit) × (Unit × (Unit × Unit)))) :=
  some ((S_strings_Compare x0.1 x1, ()), ((), ((), ())))
theorem B_mount_bodyOf_1_eq (n : Nat) (x0 : (ByteArray × (Int × (Int × (Int × (ByteArray × Unit)))))) (x1 : ByteArray) : bodyE ty T_mount_bodyOf_1 n I_mount_bodyOf_1 (x0, (x1, ())) = B_mount_bodyOf_1 x0 x1 := by kernel_rfl

end Go.Proofs.YtjemgnhklipcjaaDoor
namespace Go.Proofs.YtjemgnhklipcjaaDoor
open Go Go.VM
def S_mount_bodyOf_1 (x0 : (ByteArray × (Int × (Int × (Int × (ByteArray × Unit)))))) (x1 : ByteArray) : Int := S_strings_Compare x0.1 x1
theorem ok_mount_bodyOf_1 (x0 : (ByteArray × (Int × (Int × (Int × (ByteArray × Unit)))))) (x1 : ByteArray) (hok : OkA I_mount_bodyOf_1.args (x0, x1, ())) : ∃ n, bodyE ty T_mount_bodyOf_1 n I_mount_bodyOf_1 (x0, x1, ()) = some (((S_mount_bodyOf_1 x0 x1), ()), ((), (), ())) := ⟨0, by rw [B_mount_bodyOf_1_eq]; rfl⟩
noncomputable def E_mount_bodyOf_1 : Entry Tryd.prog := Entry.of tok T_mount_bodyOf_1 I_mount_bodyOf_1 it_mount_bodyOf_1 (fun (x0, x1, ()) => some (((S_mount_bodyOf_1 x0 x1), ()), ((), (), ()))) (fun (x0, x1, ()) r hok h => by cases h; exact ok_mount_bodyOf_1 x0 x1 hok)

end Go.Proofs.YtjemgnhklipcjaaDoor
namespace Go.Proofs.YtjemgnhklipcjaaDoor
open Go Go.VM
/-! ### slices.BinarySearchFunc[[]etchhouse.api.Body,etchhouse.api.Body,string] -/
noncomputable def I_slices_BinarySearchFunc_etchhouse_api_Body_etchhouse_api_Body_string_of_mount_bodyOf_1 : Inst := ⟨91, Tryd.f91, .two (.reg []) (.two (.reg []) (.two (.reg []) (.two (.one (.loop ⟨[(9, .pv i), (10, .pv i)], [], [0, 1, 2, 8], []⟩ (.two (.two (.reg []) (.two (.leaf) (.leaf))) (.one (.two (.reg []) (.two (.reg [(6, 0)]) (.two (.reg []) (.reg [])))))))) (.two (.reg [(11, 0)]) (.leaf))))), (.cons (.pv (.sl (.pair .str (.pair i (.pair i (.pair i (.pair .str .unit))))))) (.cons (.pv .str) (.cons (.fn 92 .nil) .nil))), (.cons .flat i (.cons .flat .bool .nil))⟩
theorem it_slices_BinarySearchFunc_etchhouse_api_Body_etchhouse_api_Body_string_of_mount_bodyOf_1 : InTab Tryd.prog I_slices_BinarySearchFunc_etchhouse_api_Body_etchhouse_api_Body_string_of_mount_bodyOf_1 := ⟨Tryd.func91, by kernel_rfl, rfl⟩
noncomputable def T_slices_BinarySearchFunc_etchhouse_api_Body_etchhouse_api_Body_string_of_mount_bodyOf_1 : Nat → Entry Tryd.prog := nth (Entry.no Tryd.f0) [E_mount_bodyOf_1]
noncomputable def B_slices_BinarySearchFunc_etchhouse_api_Body_etchhouse_api_Body_string_of_mount_bodyOf_1 (n : Nat) (x0 : List (ByteArray × (Int × (Int × (Int × (ByteArray × Unit)))))) (x1 : ByteArray) (x2 : Unit) : Option (((Int × (Bool × Unit)) × (Unit × (Unit × (Unit × Unit))))) :=
  loopN (fun rec1 => fun
  | ((v1aa, (v1aba, ())), ()) =>
    (bif decide ((v1aa < v1aba)) then
      (bif inB (wrapI .i64 (Int.fdiv (wrapI .u64 (wrapI .i64 (v1aa + v1aba))) 2)) x0.length then
        (bif decide ((S_mount_bodyOf_1 (x0.getD ((wrapI .i64 (Int.fdiv (wrapI .u64 (wrapI .i64 (v1aa + v1aba))) 2)).toNat) ((strOf []), (0, (0, (0, ((strOf []), ())))))) x1 < 0)) then
          rec1 ((wrapI .i64 (wrapI .i64 (Int.fdiv (wrapI .u64 (wrapI .i64 (v1aa + v1aba))) 2) + 1), (v1aba, ())), ())
        else
          rec1 ((v1aa, (wrapI .i64 (Int.fdiv (wrapI .u64 (wrapI .i64 (v1aa + v1aba))) 2), ())), ()))
      else
        none)
    else
      (bif decide ((v1aa < ((x0.length : Nat) : Int))) then
        (bif inB v1aa x0.length then
          some ((v1aa, (decide ((S_mount_bodyOf_1 (x0.getD v1aa.toNat ((strOf []), (0, (0, (0, ((strOf []), ())))))) x1 = 0)), ())), ((), ((), ((), ()))))
        else
          none)
      else
        some ((v1aa, (false, ())), ((), ((), ((), ())))))))
  n ((0, (((x0.length : Nat) : Int), ())), ())
theorem B_slices_BinarySearchFunc_etchhouse_api_Body_etchhouse_api_Body_string_of_mount_bodyOf_1_eq (n : Nat) (x0 : List (ByteArray × (Int × (Int × (Int × (ByteArray × Unit)))))) (x1 : ByteArray) (x2 : Unit) : bodyE ty T_slices_BinarySearchFunc_etchhouse_api_Body_etchhouse_api_Body_string_of_mount_bodyOf_1 n I_slices_BinarySearchFunc_etchhouse_api_Body_etchhouse_api_Body_string_of_mount_bodyOf_1 (x0, (x1, (x2, ()))) = B_slices_BinarySearchFunc_etchhouse_api_Body_etchhouse_api_Body_string_of_mount_bodyOf_1 n x0 x1 x2 := by kernel_rfl

end Go.Proofs.YtjemgnhklipcjaaDoor
namespace Go.Proofs.YtjemgnhklipcjaaDoor
open Go Go.VM
def S_slices_BinarySearchFunc_etchhouse_api_Body_etchhouse_api_Body_string_of_mount_bodyOf_1_i (x0 : List (ByteArray × (Int × (Int × (Int × (ByteArray × Unit)))))) (x1 : ByteArray) (x2 : Unit) : Int := ((bsI (fun a : (ByteArray × (Int × (Int × (Int × (ByteArray × Unit))))) => S_mount_bodyOf_1 a x1) x0 ((strOf []), (0, (0, (0, ((strOf []), ()))))) : Nat) : Int)
def S_slices_BinarySearchFunc_etchhouse_api_Body_etchhouse_api_Body_string_of_mount_bodyOf_1_f (x0 : List (ByteArray × (Int × (Int × (Int × (ByteArray × Unit)))))) (x1 : ByteArray) (x2 : Unit) : Bool := bsF (fun a : (ByteArray × (Int × (Int × (Int × (ByteArray × Unit))))) => S_mount_bodyOf_1 a x1) x0 ((strOf []), (0, (0, (0, ((strOf []), ())))))
theorem ok_slices_BinarySearchFunc_etchhouse_api_Body_etchhouse_api_Body_string_of_mount_bodyOf_1 (x0 : List (ByteArray × (Int × (Int × (Int × (ByteArray × Unit)))))) (x1 : ByteArray) (x2 : Unit) (hok : OkA I_slices_BinarySearchFunc_etchhouse_api_Body_etchhouse_api_Body_string_of_mount_bodyOf_1.args (x0, x1, x2, ())) : ∃ n, bodyE ty T_slices_BinarySearchFunc_etchhouse_api_Body_etchhouse_api_Body_string_of_mount_bodyOf_1 n I_slices_BinarySearchFunc_etchhouse_api_Body_etchhouse_api_Body_string_of_mount_bodyOf_1 (x0, x1, x2, ()) = some ((S_slices_BinarySearchFunc_etchhouse_api_Body_etchhouse_api_Body_string_of_mount_bodyOf_1_i x0 x1 x2, S_slices_BinarySearchFunc_etchhouse_api_Body_etchhouse_api_Body_string_of_mount_bodyOf_1_f x0 x1 x2, ()), ((), (), (), ())) := ⟨x0.length + 1, by
  have hl : x0.length ≤ maxLen := hok.1.1
  rw [B_slices_BinarySearchFunc_etchhouse_api_Body_etchhouse_api_Body_string_of_mount_bodyOf_1_eq]
  unfold B_slices_BinarySearchFunc_etchhouse_api_Body_etchhouse_api_Body_string_of_mount_bodyOf_1 S_slices_BinarySearchFunc_etchhouse_api_Body_etchhouse_api_Body_string_of_mount_bodyOf_1_i S_slices_BinarySearchFunc_etchhouse_api_Body_etchhouse_api_Body_string_of_mount_bodyOf_1_f
  exact bs_loop (fun a : (ByteArray × (Int × (Int × (Int × (ByteArray × Unit))))) => S_mount_bodyOf_1 a x1) (R := fun a b => ((a, b, ()), ((), (), (), ()))) hl (Nat.lt_succ_self _)⟩
noncomputable def E_slices_BinarySearchFunc_etchhouse_api_Body_etchhouse_api_Body_string_of_mount_bodyOf_1 : Entry Tryd.prog := Entry.of tok T_slices_BinarySearchFunc_etchhouse_api_Body_etchhouse_api_Body_string_of_mount_bodyOf_1 I_slices_BinarySearchFunc_etchhouse_api_Body_etchhouse_api_Body_string_of_mount_bodyOf_1 it_slices_BinarySearchFunc_etchhouse_api_Body_etchhouse_api_Body_string_of_mount_bodyOf_1 (fun (x0, x1, x2, ()) => some ((S_slices_BinarySearchFunc_etchhouse_api_Body_etchhouse_api_Body_string_of_mount_bodyOf_1_i x0 x1 x2, S_slices_BinarySearchFunc_etchhouse_api_Body_etchhouse_api_Body_string_of_mount_bodyOf_1_f x0 x1 x2, ()), ((), (), (), ()))) (fun (x0, x1, x2, ()) r hok h => by cases h; exact ok_slices_BinarySearchFunc_etchhouse_api_Body_etchhouse_api_Body_string_of_mount_bodyOf_1 x0 x1 x2 hok)

end Go.Proofs.YtjemgnhklipcjaaDoor
namespace Go.Proofs.YtjemgnhklipcjaaDoor
open Go Go.VM
/-! ### etchhouse.mount.bodyOf -/
noncomputable def I_mount_bodyOf : Inst := ⟨61, Tryd.f61, .two (.reg []) (.two (.reg [(2, 0)]) (.two (.two (.reg []) (.two (.two (.reg []) (.leaf)) (.leaf))) (.two (.reg []) (.leaf)))), (.cons (.pv (.sl (.pair .str (.pair i (.pair i (.pair i (.pair .str .unit))))))) (.cons (.pv .str) .nil)), (.cons .flat (.pair .str (.pair i (.pair i (.pair i (.pair .str .unit))))) (.cons .flat .bool .nil))⟩
theorem it_mount_bodyOf : InTab Tryd.prog I_mount_bodyOf := ⟨Tryd.func61, by kernel_rfl, rfl⟩
noncomputable def T_mount_bodyOf : Nat → Entry Tryd.prog := nth (Entry.no Tryd.f0) [E_slices_BinarySearchFunc_etchhouse_api_Body_etchhouse_api_Body_string_of_mount_bodyOf_1]
noncomputable def B_mount_bodyOf (x0 : List (ByteArray × (Int × (Int × (Int × (ByteArray × Unit)))))) (x1 : ByteArray) : Option ((((ByteArray × (Int × (Int × (Int × (ByteArray × Unit))))) × (Bool × Unit)) × (Unit × (Unit × Unit)))) :=
  (bif (!(S_slices_BinarySearchFunc_etchhouse_api_Body_etchhouse_api_Body_string_of_mount_bodyOf_1_f x0 x1 ())) then
    some ((((strOf []), (0, (0, (0, ((strOf []), ()))))), (false, ())), ((), ((), ())))
  else
    (bif inB (S_slices_BinarySearchFunc_etchhouse_api_Body_etchhouse_api_Body_string_of_mount_bodyOf_1_i x0 x1 ()) x0.length then
      some ((x0.getD ((S_slices_BinarySearchFunc_etchhouse_api_Body_etchhouse_api_Body_string_of_mount_bodyOf_1_i x0 x1 ()).toNat) ((strOf []), (0, (0, (0, ((strOf []), ()))))), (true, ())), ((), ((), ())))
    else
      none))
theorem B_mount_bodyOf_eq (n : Nat) (x0 : List (ByteArray × (Int × (Int × (Int × (ByteArray × Unit)))))) (x1 : ByteArray) : bodyE ty T_mount_bodyOf n I_mount_bodyOf (x0, (x1, ())) = B_mount_bodyOf x0 x1 := by kernel_rfl

end Go.Proofs.YtjemgnhklipcjaaDoor
namespace Go.Proofs.YtjemgnhklipcjaaDoor
open Go Go.VM
theorem ok_mount_bodyOf (x0 : List Bod) (x1 : ByteArray) (hok : OkA I_mount_bodyOf.args (x0, x1, ())) : ∃ n, bodyE ty T_mount_bodyOf n I_mount_bodyOf (x0, x1, ()) = some ((S_bodP x0 x1, S_thereB x0 x1, ()), ((), (), ())) := ⟨0, by
  rw [B_mount_bodyOf_eq]
  unfold B_mount_bodyOf S_bodP
  change (bif !S_thereB x0 x1 then _ else bif inB ((bsI (fun a : Bod => S_cmps a.1 x1) x0 bod0 : Nat) : Int) x0.length then _ else _) = _
  cases h : S_thereB x0 x1 with
  | false => rfl
  | true =>
    rw [inB_nat (thereB_lt h)]
    rfl⟩
noncomputable def E_mount_bodyOf : Entry Tryd.prog := Entry.of tok T_mount_bodyOf I_mount_bodyOf it_mount_bodyOf (fun (x0, x1, ()) => some ((S_bodP x0 x1, S_thereB x0 x1, ()), ((), (), ()))) (fun (x0, x1, ()) r hok h => by cases h; exact ok_mount_bodyOf x0 x1 hok)

end Go.Proofs.YtjemgnhklipcjaaDoor
namespace Go.Proofs.YtjemgnhklipcjaaDoor
open Go Go.VM
noncomputable def I_bytealg_CountString : Inst := ⟨140, Tryd.f140, .leaf, pvs [.str, .int .u8], .cons .flat (.int .i64) .nil⟩
noncomputable def E_bytealg_CountString : Entry Tryd.prog := Entry.ext I_bytealg_CountString cntF (ext_cnt Tryd.func140 (by kernel_rfl) rfl (by kernel_rfl) (by kernel_rfl))

end Go.Proofs.YtjemgnhklipcjaaDoor
namespace Go.Proofs.YtjemgnhklipcjaaDoor
open Go Go.VM
/-! ### internal.stringslite.Index -/
noncomputable def I_stringslite_Index : Inst := ⟨141, Tryd.f141, .two (.reg []) (.two (.reg []) (.two (.one (.two (.reg []) (.two (.two (.reg []) (.leaf)) (.two (.reg []) (.two (.two (.reg [(3, 0)]) (.leaf)) (.two (.reg []) (.two (.two (.reg []) (.leaf)) (.leaf)))))))) (.leaf))), (.cons (.pv .str) (.cons (.pv .str) .nil)), (.cons .flat i .nil)⟩
theorem it_stringslite_Index : InTab Tryd.prog I_stringslite_Index := ⟨Tryd.func141, by kernel_rfl, rfl⟩
noncomputable def T_stringslite_Index : Nat → Entry Tryd.prog := nth (Entry.no Tryd.f0) [E_stringslite_IndexByte]
noncomputable def B_stringslite_Index (x0 : ByteArray) (x1 : ByteArray) : Option (((Int × Unit) × (Unit × (Unit × Unit)))) :=
  (bif decide ((((ByteArray.size x1 : Nat) : Int) = 0)) then
    some ((0, ()), ((), ((), ())))
  else
    (bif decide ((ByteArray.toList x1 = ByteArray.toList x0)) then
      some ((0, ()), ((), ((), ())))
    else
      (bif decide ((((ByteArray.size x1 : Nat) : Int) = 1)) then
        (bif inB 0 (ByteArray.size x1) then
          some ((S_stringslite_IndexByte x0 (strAt x1 0), ()), ((), ((), ())))
        else
          none)
      else
        (bif decide ((((ByteArray.size x0 : Nat) : Int) ≤ ((ByteArray.size x1 : Nat) : Int))) then
          some (((-1), ()), ((), ((), ())))
        else
          none))))
theorem B_stringslite_Index_eq (n : Nat) (x0 : ByteArray) (x1 : ByteArray) : bodyE ty T_stringslite_Index n I_stringslite_Index (x0, (x1, ())) = B_stringslite_Index x0 x1 := by kernel_rfl

end Go.Proofs.YtjemgnhklipcjaaDoor
namespace Go.Proofs.YtjemgnhklipcjaaDoor
open Go Go.VM
noncomputable def E_stringslite_Index : Entry Tryd.prog := Entry.of tok T_stringslite_Index I_stringslite_Index it_stringslite_Index (fun x => B_stringslite_Index x.1 x.2.1) (fun (a0, a1, ()) r _ h => ⟨0, (B_stringslite_Index_eq 0 a0 a1).trans h⟩)

end Go.Proofs.YtjemgnhklipcjaaDoor
namespace Go.Proofs.YtjemgnhklipcjaaDoor
open Go Go.VM
/-! ### strings.Index -/
noncomputable def I_strings_Index : Inst := ⟨130, Tryd.f130, .two (.reg []) (.two (.reg [(2, 0)]) (.leaf)), (.cons (.pv .str) (.cons (.pv .str) .nil)), (.cons .flat i .nil)⟩
theorem it_strings_Index : InTab Tryd.prog I_strings_Index := ⟨Tryd.func130, by kernel_rfl, rfl⟩
noncomputable def T_strings_Index : Nat → Entry Tryd.prog := nth (Entry.no Tryd.f0) [E_stringslite_Index]
noncomputable def B_strings_Index (x0 : ByteArray) (x1 : ByteArray) : Option (((Int × Unit) × (Unit × (Unit × Unit)))) :=
  ((B_stringslite_Index x0 x1).bind fun ((r1aa, ()), ((), ((), ()))) =>
  some ((r1aa, ()), ((), ((), ()))))
theorem B_strings_Index_eq (n : Nat) (x0 : ByteArray) (x1 : ByteArray) : bodyE ty T_strings_Index n I_strings_Index (x0, (x1, ())) = B_strings_Index x0 x1 := by kernel_rfl

end Go.Proofs.YtjemgnhklipcjaaDoor
namespace Go.Proofs.YtjemgnhklipcjaaDoor
open Go Go.VM
noncomputable def E_strings_Index : Entry Tryd.prog := Entry.of tok T_strings_Index I_strings_Index it_strings_Index (fun x => B_strings_Index x.1 x.2.1) (fun (a0, a1, ()) r _ h => ⟨0, (B_strings_Index_eq 0 a0 a1).trans h⟩)

end Go.Proofs.YtjemgnhklipcjaaDoor
namespace Go.Proofs.YtjemgnhklipcjaaDoor
open Go Go.VM
/-! ### strings.Count -/
noncomputable def I_strings_Count : Inst := ⟨129, Tryd.f129, .two (.reg []) (.two (.two (.reg []) (.two (.leaf) (.leaf))) (.two (.two (.reg []) (.two (.two (.reg [(3, 0)]) (.leaf)) (.leaf))) (.two (.reg []) (.one (.loop ⟨[(0, .pv .str), (5, .pv i)], [], [1], []⟩ (.one (.two (.reg [(2, 1)]) (.two (.two (.reg []) (.two (.two (.reg []) (.leaf)) (.leaf))) (.two (.reg []) (.reg [])))))))))), (.cons (.pv .str) (.cons (.pv .str) .nil)), (.cons .flat i .nil)⟩
theorem it_strings_Count : InTab Tryd.prog I_strings_Count := ⟨Tryd.func129, by kernel_rfl, rfl⟩
noncomputable def T_strings_Count : Nat → Entry Tryd.prog := nth (Entry.no Tryd.f0) [E_bytealg_CountString, E_strings_Index]
noncomputable def B_strings_Count (n : Nat) (x0 : ByteArray) (x1 : ByteArray) : Option (((Int × Unit) × (Unit × (Unit × Unit)))) :=
  (bif decide ((((ByteArray.size x1 : Nat) : Int) = 0)) then
    none
  else
    (bif decide ((((ByteArray.size x1 : Nat) : Int) = 1)) then
      (bif inB 0 (ByteArray.size x1) then
        some ((S_cnt x0 (strAt x1 0), ()), ((), ((), ())))
      else
        none)
    else
      loopN (fun rec1 => fun
      | ((v1aa, (v1aba, ())), ()) =>
        ((B_strings_Index v1aa x1).bind fun ((r2aa, ()), ((), ((), ()))) =>
        (bif decide ((r2aa = (-1))) then
          some ((v1aba, ()), ((), ((), ())))
        else
          (bif (decide ((0 ≤ wrapI .i64 (r2aa + ((ByteArray.size x1 : Nat) : Int)))) && decide ((wrapI .i64 (r2aa + ((ByteArray.size x1 : Nat) : Int)) ≤ ((ByteArray.size v1aa : Nat) : Int)))) then
            rec1 ((ByteArray.extract v1aa ((wrapI .i64 (r2aa + ((ByteArray.size x1 : Nat) : Int))).toNat) (ByteArray.size v1aa), (wrapI .i64 (v1aba + 1), ())), ())
          else
            none))))
      n ((x0, (0, ())), ())))
theorem B_strings_Count_eq (n : Nat) (x0 : ByteArray) (x1 : ByteArray) : bodyE ty T_strings_Count n I_strings_Count (x0, (x1, ())) = B_strings_Count n x0 x1 := by kernel_rfl

end Go.Proofs.YtjemgnhklipcjaaDoor
namespace Go.Proofs.YtjemgnhklipcjaaDoor
open Go Go.VM
def S_countO (x0 x1 : ByteArray) : Option ((Int × Unit) × Unit × Unit × Unit) := bif decide (x1.size = 1) then some ((S_cnt x0 (strAt x1 0), ()), ((), (), ())) else none
theorem ok_strings_Count (x0 x1 : ByteArray) (hok : OkA I_strings_Count.args (x0, x1, ())) (r) (h : S_countO x0 x1 = some r) : ∃ n, bodyE ty T_strings_Count n I_strings_Count (x0, x1, ()) = some r := ⟨0, by
  rw [B_strings_Count_eq, ← h]
  unfold S_countO at h ⊢
  cases hd : decide (x1.size = 1) with
  | false => rw [hd] at h; cases h
  | true =>
    have hd := of_decide_eq_true hd
    unfold B_strings_Count
    rw [decide_eq_false (show ¬ ((x1.size : Int) = 0) by omega), decide_eq_true (show (x1.size : Int) = 1 by omega), hd]
    rfl⟩
noncomputable def E_strings_Count : Entry Tryd.prog := Entry.of tok T_strings_Count I_strings_Count it_strings_Count (fun (x0, x1, ()) => S_countO x0 x1) (fun (x0, x1, ()) r hok h => ok_strings_Count x0 x1 hok r h)

end Go.Proofs.YtjemgnhklipcjaaDoor
namespace Go.Proofs.YtjemgnhklipcjaaDoor
open Go Go.VM
/-! ### strings.genSplit -/
noncomputable def I_strings_genSplit : Inst := ⟨113, Tryd.f113, .two (.reg []) (.two (.two (.reg []) (.two (.two (.reg []) (.leaf)) (.leaf))) (.two (.two (.reg []) (.two (.leaf) (.leaf))) (.two (.two (.reg []) (.two (.reg [(2, 0)]) (.leaf))) (.two (.reg []) (.two (.reg []) (.two (.reg []) (.two (.reg []) (.two (.one (.loop ⟨[(0, .pv .str), (10, .pv i)], [(9, ⟨(.own .flat), (.sl .str), false, false⟩)], [1, 2, 3, 9], []⟩ (.two (.two (.reg []) (.two (.leaf) (.leaf))) (.one (.two (.reg [(2, 1)]) (.two (.two (.reg []) (.two (.leaf) (.leaf))) (.two (.reg []) (.two (.reg []) (.reg []))))))))) (.two (.reg []) (.two (.reg []) (.leaf))))))))))), (.cons (.pv .str) (.cons (.pv .str) (.cons (.pv i) (.cons (.pv i) .nil)))), (.cons (.own .flat) (.sl .str) .nil)⟩
theorem it_strings_genSplit : InTab Tryd.prog I_strings_genSplit := ⟨Tryd.func113, by kernel_rfl, rfl⟩
noncomputable def T_strings_genSplit : Nat → Entry Tryd.prog := nth (Entry.no Tryd.f0) [E_strings_Count, E_strings_Index]
noncomputable def B_strings_genSplit (n : Nat) (x0 : ByteArray) (x1 : ByteArray) (x2 : Int) (x3 : Int) : Option (((List ByteArray × Unit) × (Unit × (Unit × (Unit × (Unit × Unit)))))) :=
  (bif decide ((x3 = 0)) then
    some (([], ()), ((), ((), ((), ((), ())))))
  else
    (bif decide ((ByteArray.toList x1 = ByteArray.toList (strOf []))) then
      none
    else
      (bif decide ((x3 < 0)) then
        ((S_countO x0 x1).bind fun ((r1aa, ()), ((), ((), ()))) =>
        (bif ((decide ((0 ≤ (bif decide ((wrapI .i64 (((ByteArray.size x0 : Nat) : Int) + 1) < wrapI .i64 (r1aa + 1))) then wrapI .i64 (((ByteArray.size x0 : Nat) : Int) + 1) else wrapI .i64 (r1aa + 1)))) && decide (((bif decide ((wrapI .i64 (((ByteArray.size x0 : Nat) : Int) + 1) < wrapI .i64 (r1aa + 1))) then wrapI .i64 (((ByteArray.size x0 : Nat) : Int) + 1) else wrapI .i64 (r1aa + 1)) ≤ (bif decide ((wrapI .i64 (((ByteArray.size x0 : Nat) : Int) + 1) < wrapI .i64 (r1aa + 1))) then wrapI .i64 (((ByteArray.size x0 : Nat) : Int) + 1) else wrapI .i64 (r1aa + 1))))) && decide (((bif decide ((wrapI .i64 (((ByteArray.size x0 : Nat) : Int) + 1) < wrapI .i64 (r1aa + 1))) then wrapI .i64 (((ByteArray.size x0 : Nat) : Int) + 1) else wrapI .i64 (r1aa + 1)) ≤ 4294967296))) then
          loopN (fun rec2 => fun
          | ((v2aa, (v2aba, ())), (v2ba, ())) =>
            (bif decide ((v2aba < wrapI .i64 ((bif decide ((wrapI .i64 (((ByteArray.size x0 : Nat) : Int) + 1) < wrapI .i64 (r1aa + 1))) then wrapI .i64 (((ByteArray.size x0 : Nat) : Int) + 1) else wrapI .i64 (r1aa + 1)) - 1))) then
              ((B_strings_Index v2aa x1).bind fun ((r3aa, ()), ((), ((), ()))) =>
              (bif decide ((r3aa < 0)) then
                (bif inB v2aba v2ba.length then
                  (bif (decide ((0 ≤ wrapI .i64 (v2aba + 1))) && decide ((wrapI .i64 (v2aba + 1) ≤ (((v2ba.set v2aba.toNat v2aa).length : Nat) : Int)))) then
                    some ((((v2ba.set v2aba.toNat v2aa).drop 0).take ((wrapI .i64 (v2aba + 1)).toNat - 0), ()), ((), ((), ((), ((), ())))))
                  else
                    none)
                else
                  none)
              else
                (bif (decide ((0 ≤ wrapI .i64 (r3aa + x2))) && decide ((wrapI .i64 (r3aa + x2) ≤ ((ByteArray.size v2aa : Nat) : Int)))) then
                  (bif inB v2aba v2ba.length then
                    (bif (decide ((0 ≤ wrapI .i64 (r3aa + ((ByteArray.size x1 : Nat) : Int)))) && decide ((wrapI .i64 (r3aa + ((ByteArray.size x1 : Nat) : Int)) ≤ ((ByteArray.size v2aa : Nat) : Int)))) then
                      rec2 ((ByteArray.extract v2aa ((wrapI .i64 (r3aa + ((ByteArray.size x1 : Nat) : Int))).toNat) (ByteArray.size v2aa), (wrapI .i64 (v2aba + 1), ())), (v2ba.set v2aba.toNat (ByteArray.extract v2aa 0 ((wrapI .i64 (r3aa + x2)).toNat)), ()))
                    else
                      none)
                  else
                    none)
                else
                  none)))
            else
              (bif inB v2aba v2ba.length then
                (bif (decide ((0 ≤ wrapI .i64 (v2aba + 1))) && decide ((wrapI .i64 (v2aba + 1) ≤ (((v2ba.set v2aba.toNat v2aa).length : Nat) : Int)))) then
                  some ((((v2ba.set v2aba.toNat v2aa).drop 0).take ((wrapI .i64 (v2aba + 1)).toNat - 0), ()), ((), ((), ((), ((), ())))))
                else
                  none)
              else
                none)))
          n ((x0, (0, ())), (List.replicate (α := ByteArray) ((bif decide ((wrapI .i64 (((ByteArray.size x0 : Nat) : Int) + 1) < wrapI .i64 (r1aa + 1))) then wrapI .i64 (((ByteArray.size x0 : Nat) : Int) + 1) else wrapI .i64 (r1aa + 1)).toNat) (strOf []), ()))
        else
          none))
      else
        (bif ((decide ((0 ≤ (bif decide ((wrapI .i64 (((ByteArray.size x0 : Nat) : Int) + 1) < x3)) then wrapI .i64 (((ByteArray.size x0 : Nat) : Int) + 1) else x3))) && decide (((bif decide ((wrapI .i64 (((ByteArray.size x0 : Nat) : Int) + 1) < x3)) then wrapI .i64 (((ByteArray.size x0 : Nat) : Int) + 1) else x3) ≤ (bif decide ((wrapI .i64 (((ByteArray.size x0 : Nat) : Int) + 1) < x3)) then wrapI .i64 (((ByteArray.size x0 : Nat) : Int) + 1) else x3)))) && decide (((bif decide ((wrapI .i64 (((ByteArray.size x0 : Nat) : Int) + 1) < x3)) then wrapI .i64 (((ByteArray.size x0 : Nat) : Int) + 1) else x3) ≤ 4294967296))) then
          loopN (fun rec4 => fun
          | ((v4aa, (v4aba, ())), (v4ba, ())) =>
            (bif decide ((v4aba < wrapI .i64 ((bif decide ((wrapI .i64 (((ByteArray.size x0 : Nat) : Int) + 1) < x3)) then wrapI .i64 (((ByteArray.size x0 : Nat) : Int) + 1) else x3) - 1))) then
              ((B_strings_Index v4aa x1).bind fun ((r5aa, ()), ((), ((), ()))) =>
              (bif decide ((r5aa < 0)) then
                (bif inB v4aba v4ba.length then
                  (bif (decide ((0 ≤ wrapI .i64 (v4aba + 1))) && decide ((wrapI .i64 (v4aba + 1) ≤ (((v4ba.set v4aba.toNat v4aa).length : Nat) : Int)))) then
                    some ((((v4ba.set v4aba.toNat v4aa).drop 0).take ((wrapI .i64 (v4aba + 1)).toNat - 0), ()), ((), ((), ((), ((), ())))))
                  else
                    none)
                else
                  none)
              else
                (bif (decide ((0 ≤ wrapI .i64 (r5aa + x2))) && decide ((wrapI .i64 (r5aa + x2) ≤ ((ByteArray.size v4aa : Nat) : Int)))) then
                  (bif inB v4aba v4ba.length then
                    (bif (decide ((0 ≤ wrapI .i64 (r5aa + ((ByteArray.size x1 : Nat) : Int)))) && decide ((wrapI .i64 (r5aa + ((ByteArray.size x1 : Nat) : Int)) ≤ ((ByteArray.size v4aa : Nat) : Int)))) then
                      rec4 ((ByteArray.extract v4aa ((wrapI .i64 (r5aa + ((ByteArray.size x1 : Nat) : Int))).toNat) (ByteArray.size v4aa), (wrapI .i64 (v4aba + 1), ())), (v4ba.set v4aba.toNat (ByteArray.extract v4aa 0 ((wrapI .i64 (r5aa + x2)).toNat)), ()))
                    else
                      none)
                  else
                    none)
                else
                  none)))
            else
              (bif inB v4aba v4ba.length then
                (bif (decide ((0 ≤ wrapI .i64 (v4aba + 1))) && decide ((wrapI .i64 (v4aba + 1) ≤ (((v4ba.set v4aba.toNat v4aa).length : Nat) : Int)))) then
                  some ((((v4ba.set v4aba.toNat v4aa).drop 0).take ((wrapI .i64 (v4aba + 1)).toNat - 0), ()), ((), ((), ((), ((), ())))))
                else
                  none)
              else
                none)))
          n ((x0, (0, ())), (List.replicate (α := ByteArray) ((bif decide ((wrapI .i64 (((ByteArray.size x0 : Nat) : Int) + 1) < x3)) then wrapI .i64 (((ByteArray.size x0 : Nat) : Int) + 1) else x3).toNat) (strOf []), ()))
        else
          none))))
theorem B_strings_genSplit_eq (n : Nat) (x0 : ByteArray) (x1 : ByteArray) (x2 : Int) (x3 : Int) : bodyE ty T_strings_genSplit n I_strings_genSplit (x0, (x1, (x2, (x3, ())))) = B_strings_genSplit n x0 x1 x2 x3 := by kernel_rfl

end Go.Proofs.YtjemgnhklipcjaaDoor
namespace Go.Proofs.YtjemgnhklipcjaaDoor
open Go Go.VM
def S_genO (x0 x1 : ByteArray) (x2 x3 : Int) : Option ((List ByteArray × Unit) × Unit × Unit × Unit × Unit × Unit) := bif (decide (x1.size = 1) && decide (x2 = 0)) && (decide (x3 < 0) && decide (x0.size ≤ 4000000000)) then some ((S_split x0 x1, ()), ((), (), (), (), ())) else none
theorem index_is {s sep : ByteArray} (hs : sep.size = 1) : B_strings_Index s sep = some ((idx1 sep s, ()), ((), ((), ()))) := by
  unfold B_strings_Index B_stringslite_Index idx1
  rw [decide_eq_false (show ¬ ((sep.size : Int) = 0) by omega), decide_eq_true (show (sep.size : Int) = 1 by omega), hs]
  cases decide (sep.toList = s.toList) <;> rfl
theorem ok_strings_genSplit (x0 x1 : ByteArray) (x2 x3 : Int) (hok : OkA I_strings_genSplit.args (x0, x1, x2, x3, ())) (r) (h : S_genO x0 x1 x2 x3 = some r) : ∃ n, bodyE ty T_strings_genSplit n I_strings_genSplit (x0, x1, x2, x3, ()) = some r := by
  refine ⟨(S_cnt x0 (strAt x1 0)).toNat + 1, ?_⟩
  rw [B_strings_genSplit_eq, ← h]
  unfold S_genO at h ⊢
  cases hd : (decide (x1.size = 1) && decide (x2 = 0)) && (decide (x3 < 0) && decide (x0.size ≤ 4000000000)) with
  | false => rw [hd] at h; cases h
  | true =>
    simp only [Bool.and_eq_true, decide_eq_true_eq] at hd
    obtain ⟨⟨h1, rfl⟩, h3, hsz⟩ := hd
    have hne : ¬ x1.toList = (strOf []).toList := fun c => by
      have := bytes_eq c
      rw [this] at h1
      cases h1
    obtain ⟨c, hc⟩ : ∃ c : Nat, S_cnt x0 (strAt x1 0) = (c : Int) := ⟨(S_cnt x0 (strAt x1 0)).toNat, by have := cnt_le x0 (strAt x1 0); omega⟩
    have hcle : c ≤ x0.size := by have := cnt_le x0 (strAt x1 0); omega
    have hco : S_countO x0 x1 = some (((c : Int), ()), ((), ((), ()))) := by unfold S_countO; rw [decide_eq_true h1, cond_true, hc]
    unfold B_strings_genSplit
    rw [decide_eq_false (show ¬ x3 = 0 by omega), decide_eq_false hne, decide_eq_true h3, hco]
    have w1 : wrapI .i64 ((x0.size : Int) + 1) = ((x0.size + 1 : Nat) : Int) := (wrap64 (by omega) (by omega)).trans (by omega)
    have w2 : wrapI .i64 ((c : Int) + 1) = ((c + 1 : Nat) : Int) := (wrap64 (by omega) (by omega)).trans (by omega)
    have w3 : wrapI .i64 (((c + 1 : Nat) : Int) - 1) = (c : Int) := (wrap64 (by omega) (by omega)).trans (by omega)
    have d1 : decide (((x0.size + 1 : Nat) : Int) < ((c + 1 : Nat) : Int)) = false := decide_eq_false (by omega)
    have d2 : decide ((0 : Int) ≤ ((c + 1 : Nat) : Int)) = true := decide_eq_true (by omega)
    have d3 : decide (((c + 1 : Nat) : Int) ≤ ((c + 1 : Nat) : Int)) = true := decide_eq_true (by omega)
    have d4 : decide (((c + 1 : Nat) : Int) ≤ 4294967296) = true := decide_eq_true (by omega)
    have hS : S_split x0 x1 = splitB (idx1 x1) c x0 := by unfold S_split; rw [hc, Int.toNat_natCast]
    rw [hS, hc, Int.toNat_natCast]
    simp only [cond_true, cond_false, Option.bind_some, w1, w2, w3, d1, d2, d3, d4, Bool.and_self, Int.toNat_natCast]
    refine loop_meas (fun x => ∃ (i : Nat) (s : ByteArray) (a : List ByteArray), i ≤ c ∧ a.length = c + 1 ∧ s.size ≤ x0.size ∧ a.take i ++ splitB (idx1 x1) (c - i) s = splitB (idx1 x1) c x0 ∧ x = ((s, ((i : Int), ())), (a, ()))) (fun x => c - x.1.2.1.toNat) _ ?_ (c + 1) _ ⟨0, x0, List.replicate (c + 1) (strOf []), Nat.zero_le _, by simp, Nat.le_refl _, rfl, rfl⟩ (by show c - (0 : Int).toNat < c + 1; omega)
    rintro _ ⟨i, s, a, i1, i2, i3, i4, rfl⟩
    have k1 : wrapI .i64 (((i : Nat) : Int) + 1) = ((i + 1 : Nat) : Int) := (wrap64 (by omega) (by omega)).trans (by omega)
    have j1 : inB (i : Int) a.length = true := inB_nat (by omega)
    have s1 : decide ((0 : Int) ≤ ((i + 1 : Nat) : Int)) = true := decide_eq_true (by omega)
    have s2 : decide (((i + 1 : Nat) : Int) ≤ (((a.set i s).length : Nat) : Int)) = true := decide_eq_true (by rw [List.length_set]; omega)
    have fin : ∀ z : ByteArray, ((a.set i z).drop 0).take (i + 1 - 0) = a.take i ++ [z] := fun z => by
      rw [List.drop_zero, Nat.sub_zero, List.take_succ_eq_append_getElem (by rw [List.length_set]; omega), List.take_set_of_le (Nat.le_refl _), List.getElem_set_self]
    by_cases hi : i < c
    · have e1 : decide ((i : Int) < (c : Int)) = true := decide_eq_true (by omega)
      have hlt := idx1_lt (sep := x1) (s := s) h1
      rw [show c - i = (c - (i + 1)) + 1 by omega, splitB] at i4
      by_cases hm : idx1 x1 s < 0
      · left
        intro rec
        rw [decide_eq_true hm, cond_true] at i4
        simp only [e1, index_is h1, Option.bind_some, decide_eq_true hm, cond_true, k1, j1, s1, s2, Bool.and_self, Int.toNat_natCast, fin, i4]
      · right
        rw [decide_eq_false hm, cond_false] at i4
        obtain ⟨m, hmm⟩ : ∃ m : Nat, idx1 x1 s = (m : Int) := ⟨(idx1 x1 s).toNat, by omega⟩
        rw [hmm, Int.toNat_natCast] at i4
        have hms : m < s.size := by omega
        have p0 : wrapI .i64 ((m : Int) + 0) = (m : Int) := (wrap64 (by omega) (by omega)).trans (by omega)
        have p1 : wrapI .i64 ((m : Int) + ((x1.size : Nat) : Int)) = ((m + 1 : Nat) : Int) := (wrap64 (by omega) (by omega)).trans (by omega)
        have p2 : decide ((0 : Int) ≤ (m : Int)) = true := decide_eq_true (by omega)
        have p3 : decide ((m : Int) ≤ ((s.size : Nat) : Int)) = true := decide_eq_true (by omega)
        have p4 : decide ((0 : Int) ≤ ((m + 1 : Nat) : Int)) = true := decide_eq_true (by omega)
        have p5 : decide (((m + 1 : Nat) : Int) ≤ ((s.size : Nat) : Int)) = true := decide_eq_true (by omega)
        have p6 : decide ((m : Int) < 0) = false := decide_eq_false (by omega)
        refine ⟨((s.extract (m + 1) s.size, (((i + 1 : Nat) : Int), ())), (a.set i (s.extract 0 m), ())), ⟨i + 1, _, _, hi, by rw [List.length_set]; exact i2, by rw [ByteArray.size_extract]; omega, ?_, rfl⟩, ?_, fun rec => ?_⟩
        · have := fin (s.extract 0 m)
          rw [List.drop_zero, Nat.sub_zero] at this
          rw [this, List.append_assoc, ← i4]
          rfl
        · show c - (((i + 1 : Nat) : Int)).toNat < c - ((i : Int)).toNat
          rw [Int.toNat_natCast, Int.toNat_natCast]; omega
        · simp only [e1, index_is h1, Option.bind_some, hmm, p0, p1, p2, p3, p4, p5, p6, cond_true, cond_false, k1, j1, Bool.and_self, Int.toNat_natCast]
    · left
      intro rec
      obtain rfl : i = c := by omega
      have e1 : decide ((i : Int) < (i : Int)) = false := by simp
      rw [Nat.sub_self, splitB] at i4
      simp only [e1, cond_false, cond_true, k1, j1, s1, s2, Bool.and_self, Int.toNat_natCast, fin, i4]
noncomputable def E_strings_genSplit : Entry Tryd.prog := Entry.of tok T_strings_genSplit I_strings_genSplit it_strings_genSplit (fun (x0, x1, x2, x3, ()) => S_genO x0 x1 x2 x3) (fun (x0, x1, x2, x3, ()) r hok h => ok_strings_genSplit x0 x1 x2 x3 hok r h)

end Go.Proofs.YtjemgnhklipcjaaDoor
namespace Go.Proofs.YtjemgnhklipcjaaDoor
open Go Go.VM
/-! ### strings.Split -/
noncomputable def I_strings_Split : Inst := ⟨100, Tryd.f100, .two (.reg []) (.two (.reg [(2, 0)]) (.leaf)), (.cons (.pv .str) (.cons (.pv .str) .nil)), (.cons (.own .flat) (.sl .str) .nil)⟩
theorem it_strings_Split : InTab Tryd.prog I_strings_Split := ⟨Tryd.func100, by kernel_rfl, rfl⟩
noncomputable def T_strings_Split : Nat → Entry Tryd.prog := nth (Entry.no Tryd.f0) [E_strings_genSplit]
noncomputable def B_strings_Split (x0 : ByteArray) (x1 : ByteArray) : Option (((List ByteArray × Unit) × (Unit × (Unit × Unit)))) :=
  ((S_genO x0 x1 0 (-1)).bind fun ((r1aa, ()), ((), ((), ((), ((), ()))))) =>
  some ((r1aa, ()), ((), ((), ()))))
theorem B_strings_Split_eq (n : Nat) (x0 : ByteArray) (x1 : ByteArray) : bodyE ty T_strings_Split n I_strings_Split (x0, (x1, ())) = B_strings_Split x0 x1 := by kernel_rfl

end Go.Proofs.YtjemgnhklipcjaaDoor
namespace Go.Proofs.YtjemgnhklipcjaaDoor
open Go Go.VM
noncomputable def E_strings_Split : Entry Tryd.prog := Entry.of tok T_strings_Split I_strings_Split it_strings_Split (fun x => B_strings_Split x.1 x.2.1) (fun (a0, a1, ()) r _ h => ⟨0, (B_strings_Split_eq 0 a0 a1).trans h⟩)

end Go.Proofs.YtjemgnhklipcjaaDoor
namespace Go.Proofs.YtjemgnhklipcjaaDoor
open Go Go.VM
/-! ### etchhouse.netlist.IsPath$1 -/
noncomputable def I_netlist_IsPath_1 : Inst := ⟨101, Tryd.f101, .two (.reg []) (.two (.reg [(1, 0)]) (.leaf)), (.cons (.pv .str) .nil), (.cons .flat .bool .nil)⟩
theorem it_netlist_IsPath_1 : InTab Tryd.prog I_netlist_IsPath_1 := ⟨Tryd.func101, by kernel_rfl, rfl⟩
noncomputable def T_netlist_IsPath_1 : Nat → Entry Tryd.prog := nth (Entry.no Tryd.f0) [E_netlist_IsWord]
noncomputable def B_netlist_IsPath_1 (x0 : ByteArray) : Option (((Bool × Unit) × (Unit × Unit))) :=
  some (((!(S_word x0)), ()), ((), ()))
theorem B_netlist_IsPath_1_eq (n : Nat) (x0 : ByteArray) : bodyE ty T_netlist_IsPath_1 n I_netlist_IsPath_1 (x0, ()) = B_netlist_IsPath_1 x0 := by kernel_rfl

end Go.Proofs.YtjemgnhklipcjaaDoor
namespace Go.Proofs.YtjemgnhklipcjaaDoor
open Go Go.VM
def S_netlist_IsPath_1 (x0 : ByteArray) : Bool := (!(S_word x0))
theorem ok_netlist_IsPath_1 (x0 : ByteArray) (hok : OkA I_netlist_IsPath_1.args (x0, ())) : ∃ n, bodyE ty T_netlist_IsPath_1 n I_netlist_IsPath_1 (x0, ()) = some (((S_netlist_IsPath_1 x0), ()), ((), ())) := ⟨0, by rw [B_netlist_IsPath_1_eq]; rfl⟩
noncomputable def E_netlist_IsPath_1 : Entry Tryd.prog := Entry.of tok T_netlist_IsPath_1 I_netlist_IsPath_1 it_netlist_IsPath_1 (fun (x0, ()) => some (((S_netlist_IsPath_1 x0), ()), ((), ()))) (fun (x0, ()) r hok h => by cases h; exact ok_netlist_IsPath_1 x0 hok)

end Go.Proofs.YtjemgnhklipcjaaDoor
namespace Go.Proofs.YtjemgnhklipcjaaDoor
open Go Go.VM
/-! ### slices.IndexFunc[[]string,string] -/
noncomputable def I_slices_IndexFunc_string_string_of_netlist_IsPath_1 : Inst := ⟨112, Tryd.f112, .two (.reg []) (.two (.two (.reg []) (.one (.loop ⟨[(8, .pv i)], [], [0, 1, 7], []⟩ (.two (.reg []) (.two (.two (.leaf) (.leaf)) (.two (.one (.two (.reg []) (.two (.reg [(5, 0)]) (.two (.two (.reg []) (.leaf)) (.leaf))))) (.reg []))))))) (.two (.reg []) (.leaf))), (.cons (.pv (.sl .str)) (.cons (.fn 101 .nil) .nil)), (.cons .flat i .nil)⟩
theorem it_slices_IndexFunc_string_string_of_netlist_IsPath_1 : InTab Tryd.prog I_slices_IndexFunc_string_string_of_netlist_IsPath_1 := ⟨Tryd.func112, by kernel_rfl, rfl⟩
noncomputable def T_slices_IndexFunc_string_string_of_netlist_IsPath_1 : Nat → Entry Tryd.prog := nth (Entry.no Tryd.f0) [E_netlist_IsPath_1]
noncomputable def B_slices_IndexFunc_string_string_of_netlist_IsPath_1 (n : Nat) (x0 : List ByteArray) (x1 : Unit) : Option (((Int × Unit) × (Unit × (Unit × Unit)))) :=
  loopN (fun rec1 => fun
  | ((v1aa, ()), ()) =>
    (bif decide ((v1aa < ((x0.length : Nat) : Int))) then
      (bif inB v1aa x0.length then
        (bif S_netlist_IsPath_1 (x0.getD v1aa.toNat (strOf [])) then
          some ((v1aa, ()), ((), ((), ())))
        else
          rec1 ((wrapI .i64 (v1aa + 1), ()), ()))
      else
        none)
    else
      some (((-1), ()), ((), ((), ())))))
  n ((0, ()), ())
theorem B_slices_IndexFunc_string_string_of_netlist_IsPath_1_eq (n : Nat) (x0 : List ByteArray) (x1 : Unit) : bodyE ty T_slices_IndexFunc_string_string_of_netlist_IsPath_1 n I_slices_IndexFunc_string_string_of_netlist_IsPath_1 (x0, (x1, ())) = B_slices_IndexFunc_string_string_of_netlist_IsPath_1 n x0 x1 := by kernel_rfl

end Go.Proofs.YtjemgnhklipcjaaDoor
namespace Go.Proofs.YtjemgnhklipcjaaDoor
open Go Go.VM
def S_slices_IndexFunc_string_string_of_netlist_IsPath_1 (x0 : List ByteArray) (x1 : Unit) : Int := S_find (fun a : ByteArray => S_netlist_IsPath_1 a) x0
theorem ok_slices_IndexFunc_string_string_of_netlist_IsPath_1 (x0 : List ByteArray) (x1 : Unit) (hok : OkA I_slices_IndexFunc_string_string_of_netlist_IsPath_1.args (x0, x1, ())) : ∃ n, bodyE ty T_slices_IndexFunc_string_string_of_netlist_IsPath_1 n I_slices_IndexFunc_string_string_of_netlist_IsPath_1 (x0, x1, ()) = some ((S_slices_IndexFunc_string_string_of_netlist_IsPath_1 x0 x1, ()), ((), (), ())) := ⟨x0.length + 1, by
  have hl : x0.length ≤ maxLen := hok.1.1
  rw [B_slices_IndexFunc_string_string_of_netlist_IsPath_1_eq]
  unfold B_slices_IndexFunc_string_string_of_netlist_IsPath_1 S_slices_IndexFunc_string_string_of_netlist_IsPath_1
  exact find_loop (p := fun a : ByteArray => S_netlist_IsPath_1 a) (R := fun b => ((b, ()), ((), (), ()))) (d := (strOf [])) hl (Nat.lt_succ_self _)⟩
noncomputable def E_slices_IndexFunc_string_string_of_netlist_IsPath_1 : Entry Tryd.prog := Entry.of tok T_slices_IndexFunc_string_string_of_netlist_IsPath_1 I_slices_IndexFunc_string_string_of_netlist_IsPath_1 it_slices_IndexFunc_string_string_of_netlist_IsPath_1 (fun (x0, x1, ()) => some ((S_slices_IndexFunc_string_string_of_netlist_IsPath_1 x0 x1, ()), ((), (), ()))) (fun (x0, x1, ()) r hok h => by cases h; exact ok_slices_IndexFunc_string_string_of_netlist_IsPath_1 x0 x1 hok)

end Go.Proofs.YtjemgnhklipcjaaDoor
namespace Go.Proofs.YtjemgnhklipcjaaDoor
open Go Go.VM
/-! ### slices.ContainsFunc[[]string,string] -/
noncomputable def I_slices_ContainsFunc_string_string_of_netlist_IsPath_1 : Inst := ⟨99, Tryd.f99, .two (.reg []) (.two (.reg [(2, 0)]) (.leaf)), (.cons (.pv (.sl .str)) (.cons (.fn 101 .nil) .nil)), (.cons .flat .bool .nil)⟩
theorem it_slices_ContainsFunc_string_string_of_netlist_IsPath_1 : InTab Tryd.prog I_slices_ContainsFunc_string_string_of_netlist_IsPath_1 := ⟨Tryd.func99, by kernel_rfl, rfl⟩
noncomputable def T_slices_ContainsFunc_string_string_of_netlist_IsPath_1 : Nat → Entry Tryd.prog := nth (Entry.no Tryd.f0) [E_slices_IndexFunc_string_string_of_netlist_IsPath_1]
noncomputable def B_slices_ContainsFunc_string_string_of_netlist_IsPath_1 (x0 : List ByteArray) (x1 : Unit) : Option (((Bool × Unit) × (Unit × (Unit × Unit)))) :=
  some ((decide ((0 ≤ S_slices_IndexFunc_string_string_of_netlist_IsPath_1 x0 ())), ()), ((), ((), ())))
theorem B_slices_ContainsFunc_string_string_of_netlist_IsPath_1_eq (n : Nat) (x0 : List ByteArray) (x1 : Unit) : bodyE ty T_slices_ContainsFunc_string_string_of_netlist_IsPath_1 n I_slices_ContainsFunc_string_string_of_netlist_IsPath_1 (x0, (x1, ())) = B_slices_ContainsFunc_string_string_of_netlist_IsPath_1 x0 x1 := by kernel_rfl

end Go.Proofs.YtjemgnhklipcjaaDoor
namespace Go.Proofs.YtjemgnhklipcjaaDoor
open Go Go.VM
noncomputable def E_slices_ContainsFunc_string_string_of_netlist_IsPath_1 : Entry Tryd.prog := Entry.of tok T_slices_ContainsFunc_string_string_of_netlist_IsPath_1 I_slices_ContainsFunc_string_string_of_netlist_IsPath_1 it_slices_ContainsFunc_string_string_of_netlist_IsPath_1 (fun x => B_slices_ContainsFunc_string_string_of_netlist_IsPath_1 x.1 x.2.1) (fun (a0, a1, ()) r _ h => ⟨0, (B_slices_ContainsFunc_string_string_of_netlist_IsPath_1_eq 0 a0 a1).trans h⟩)

end Go.Proofs.YtjemgnhklipcjaaDoor
namespace Go.Proofs.YtjemgnhklipcjaaDoor
open Go Go.VM
/-! ### etchhouse.netlist.IsPath -/
noncomputable def I_netlist_IsPath : Inst := ⟨76, Tryd.f76, .two (.reg []) (.two (.reg [(5, 0), (6, 1)]) (.leaf)), (.cons (.pv .str) .nil), (.cons .flat .bool .nil)⟩
theorem it_netlist_IsPath : InTab Tryd.prog I_netlist_IsPath := ⟨Tryd.func76, by kernel_rfl, rfl⟩
noncomputable def T_netlist_IsPath : Nat → Entry Tryd.prog := nth (Entry.no Tryd.f0) [E_strings_Split, E_slices_ContainsFunc_string_string_of_netlist_IsPath_1]
noncomputable def B_netlist_IsPath (x0 : ByteArray) : Option (((Bool × Unit) × (Unit × Unit))) :=
  (bif decide ((((ByteArray.size x0 : Nat) : Int) ≤ 200)) then
    ((B_strings_Split x0 (strOf [47])).bind fun ((r1aa, ()), ((), ((), ()))) =>
    ((B_slices_ContainsFunc_string_string_of_netlist_IsPath_1 r1aa ()).bind fun ((r2aa, ()), ((), ((), ()))) =>
    some (((!r2aa), ()), ((), ()))))
  else
    some ((false, ()), ((), ())))
theorem B_netlist_IsPath_eq (n : Nat) (x0 : ByteArray) : bodyE ty T_netlist_IsPath n I_netlist_IsPath (x0, ()) = B_netlist_IsPath x0 := by kernel_rfl

end Go.Proofs.YtjemgnhklipcjaaDoor
namespace Go.Proofs.YtjemgnhklipcjaaDoor
open Go Go.VM
theorem split_is {s : ByteArray} (h : s.size ≤ 4000000000) : B_strings_Split s (strOf [47]) = some ((S_split s (strOf [47]), ()), ((), ((), ()))) := by
  unfold B_strings_Split S_genO
  rw [decide_eq_true h]
  rfl
theorem not_any_not {α : Type} (p : α → Bool) (l : List α) : (!(l.any fun a => !p a)) = l.all p := by
  rw [Bool.eq_iff_iff, Bool.not_eq_true', List.any_eq_false, List.all_eq_true]
  exact ⟨fun h x hx => by have := h x hx; simpa using this, fun h x hx => by have := h x hx; simp [this]⟩
theorem ok_netlist_IsPath (x0 : ByteArray) (hok : OkA I_netlist_IsPath.args (x0, ())) : ∃ n, bodyE ty T_netlist_IsPath n I_netlist_IsPath (x0, ()) = some ((S_path x0, ()), ((), ())) := ⟨0, by
  rw [B_netlist_IsPath_eq]
  unfold B_netlist_IsPath S_path
  by_cases hs : x0.size ≤ 200
  · rw [decide_eq_true (show ((x0.size : Nat) : Int) ≤ 200 by omega), decide_eq_true hs, split_is (by omega), cond_true, Bool.true_and, ← not_any_not, ← find_any]
    rfl
  · rw [decide_eq_false (show ¬ ((x0.size : Nat) : Int) ≤ 200 by omega), decide_eq_false hs]
    rfl⟩
noncomputable def E_netlist_IsPath : Entry Tryd.prog := Entry.of tok T_netlist_IsPath I_netlist_IsPath it_netlist_IsPath (fun (x0, ()) => some ((S_path x0, ()), ((), ()))) (fun (x0, ()) r hok h => by cases h; exact ok_netlist_IsPath x0 hok)

end Go.Proofs.YtjemgnhklipcjaaDoor
namespace Go.Proofs.YtjemgnhklipcjaaDoor
open Go Go.VM
/-! ### etchhouse.shape.within -/
noncomputable def I_shape_within : Inst := ⟨114, Tryd.f114, .two (.reg []) (.two (.reg []) (.leaf)), (.cons (.pv i) (.cons (.pv i) (.cons (.pv i) .nil))), (.cons .flat .bool .nil)⟩
theorem it_shape_within : InTab Tryd.prog I_shape_within := ⟨Tryd.func114, by kernel_rfl, rfl⟩
noncomputable def T_shape_within : Nat → Entry Tryd.prog := nth (Entry.no Tryd.f0) []
noncomputable def B_shape_within (x0 : Int) (x1 : Int) (x2 : Int) : Option (((Bool × Unit) × (Unit × (Unit × (Unit × Unit))))) :=
  (bif decide ((x1 ≤ x0)) then
    some ((decide ((x0 ≤ x2)), ()), ((), ((), ((), ()))))
  else
    some ((false, ()), ((), ((), ((), ())))))
theorem B_shape_within_eq (n : Nat) (x0 : Int) (x1 : Int) (x2 : Int) : bodyE ty T_shape_within n I_shape_within (x0, (x1, (x2, ()))) = B_shape_within x0 x1 x2 := by kernel_rfl

end Go.Proofs.YtjemgnhklipcjaaDoor
namespace Go.Proofs.YtjemgnhklipcjaaDoor
open Go Go.VM
theorem ok_shape_within (x0 x1 x2 : Int) (hok : OkA I_shape_within.args (x0, x1, x2, ())) : ∃ n, bodyE ty T_shape_within n I_shape_within (x0, x1, x2, ()) = some ((S_within x0 x1 x2, ()), ((), (), (), ())) := ⟨0, by
  rw [B_shape_within_eq]; unfold B_shape_within S_within; cases decide (x1 ≤ x0) <;> rfl⟩
noncomputable def E_shape_within : Entry Tryd.prog := Entry.of tok T_shape_within I_shape_within it_shape_within (fun (x0, x1, x2, ()) => some ((S_within x0 x1 x2, ()), ((), (), (), ()))) (fun (x0, x1, x2, ()) r hok h => by cases h; exact ok_shape_within x0 x1 x2 hok)

end Go.Proofs.YtjemgnhklipcjaaDoor
namespace Go.Proofs.YtjemgnhklipcjaaDoor
open Go Go.VM
/-! ### etchhouse.shape.IsAt -/
noncomputable def I_shape_IsAt : Inst := ⟨102, Tryd.f102, .two (.reg []) (.two (.reg [(1, 0)]) (.leaf)), (.cons (.pv i) .nil), (.cons .flat .bool .nil)⟩
theorem it_shape_IsAt : InTab Tryd.prog I_shape_IsAt := ⟨Tryd.func102, by kernel_rfl, rfl⟩
noncomputable def T_shape_IsAt : Nat → Entry Tryd.prog := nth (Entry.no Tryd.f0) [E_shape_within]
noncomputable def B_shape_IsAt (x0 : Int) : Option (((Bool × Unit) × (Unit × Unit))) :=
  some ((S_within x0 (-1000000) 1000000, ()), ((), ()))
theorem B_shape_IsAt_eq (n : Nat) (x0 : Int) : bodyE ty T_shape_IsAt n I_shape_IsAt (x0, ()) = B_shape_IsAt x0 := by kernel_rfl

end Go.Proofs.YtjemgnhklipcjaaDoor
namespace Go.Proofs.YtjemgnhklipcjaaDoor
open Go Go.VM
theorem ok_shape_IsAt (x0 : Int) (hok : OkA I_shape_IsAt.args (x0, ())) : ∃ n, bodyE ty T_shape_IsAt n I_shape_IsAt (x0, ()) = some ((S_within x0 (-1000000) 1000000, ()), ((), ())) := ⟨0, by rw [B_shape_IsAt_eq]; rfl⟩
noncomputable def E_shape_IsAt : Entry Tryd.prog := Entry.of tok T_shape_IsAt I_shape_IsAt it_shape_IsAt (fun (x0, ()) => some ((S_within x0 (-1000000) 1000000, ()), ((), ()))) (fun (x0, ()) r hok h => by cases h; exact ok_shape_IsAt x0 hok)

end Go.Proofs.YtjemgnhklipcjaaDoor
namespace Go.Proofs.YtjemgnhklipcjaaDoor
open Go Go.VM
/-! ### etchhouse.shape.IsPoint -/
noncomputable def I_shape_IsPoint : Inst := ⟨77, Tryd.f77, .two (.reg []) (.two (.reg [(2, 0), (6, 0)]) (.leaf)), (.cons (.pv (.pair i (.pair i .unit))) .nil), (.cons .flat .bool .nil)⟩
theorem it_shape_IsPoint : InTab Tryd.prog I_shape_IsPoint := ⟨Tryd.func77, by kernel_rfl, rfl⟩
noncomputable def T_shape_IsPoint : Nat → Entry Tryd.prog := nth (Entry.no Tryd.f0) [E_shape_IsAt]
noncomputable def B_shape_IsPoint (x0 : (Int × (Int × Unit))) : Option (((Bool × Unit) × (Unit × Unit))) :=
  (bif S_within x0.1 (-1000000) 1000000 then
    some ((S_within x0.2.1 (-1000000) 1000000, ()), ((), ()))
  else
    some ((false, ()), ((), ())))
theorem B_shape_IsPoint_eq (n : Nat) (x0 : (Int × (Int × Unit))) : bodyE ty T_shape_IsPoint n I_shape_IsPoint (x0, ()) = B_shape_IsPoint x0 := by kernel_rfl

end Go.Proofs.YtjemgnhklipcjaaDoor
namespace Go.Proofs.YtjemgnhklipcjaaDoor
open Go Go.VM
def S_isPt (p : Int × Int × Unit) : Bool := S_within p.1 (-1000000) 1000000 && S_within p.2.1 (-1000000) 1000000
theorem ok_shape_IsPoint (x0 : Int × Int × Unit) (hok : OkA I_shape_IsPoint.args (x0, ())) : ∃ n, bodyE ty T_shape_IsPoint n I_shape_IsPoint (x0, ()) = some ((S_isPt x0, ()), ((), ())) := ⟨0, by
  rw [B_shape_IsPoint_eq]; unfold B_shape_IsPoint S_isPt; cases S_within x0.1 (-1000000) 1000000 <;> rfl⟩
noncomputable def E_shape_IsPoint : Entry Tryd.prog := Entry.of tok T_shape_IsPoint I_shape_IsPoint it_shape_IsPoint (fun (x0, ()) => some ((S_isPt x0, ()), ((), ()))) (fun (x0, ()) r hok h => by cases h; exact ok_shape_IsPoint x0 hok)

end Go.Proofs.YtjemgnhklipcjaaDoor
namespace Go.Proofs.YtjemgnhklipcjaaDoor
open Go Go.VM
/-! ### etchhouse.mount.CheckPlaces -/
noncomputable def I_mount_CheckPlaces : Inst := ⟨35, Tryd.f35, .two (.reg []) (.two (.two (.reg [(1, 0)]) (.two (.reg []) (.two (.two (.reg []) (.leaf)) (.leaf)))) (.two (.two (.reg []) (.two (.two (.reg []) (.leaf)) (.leaf))) (.two (.two (.reg []) (.one (.loop ⟨[(20, .pv i)], [], [0, 1, 18, 19], []⟩ (.two (.reg []) (.two (.two (.leaf) (.leaf)) (.two (.one (.two (.reg []) (.two (.reg [(3, 1)]) (.one (.two (.reg [(2, 2)]) (.two (.two (.reg []) (.leaf)) (.two (.reg []) (.two (.two (.reg []) (.leaf)) (.two (.reg [(2, 3), (7, 4)]) (.two (.two (.reg []) (.leaf)) (.two (.draw [] [0, 1, 2, 3, 4, 5, 6, 7, 8, 9, 10, 11, 12, 13] [7]) (.two (.two (.reg []) (.leaf)) (.leaf))))))))))))) (.reg []))))))) (.two (.reg []) (.leaf))))), (.cons (.pv (.sl (.pair .str (.pair i (.pair i (.pair i (.pair .str .unit))))))) (.cons (.pv (.sl (.pair .str (.pair .str (.pair (.pair i (.pair i .unit)) (.pair i (.pair .bool .unit))))))) .nil)), (.cons .flat i .nil)⟩
theorem it_mount_CheckPlaces : InTab Tryd.prog I_mount_CheckPlaces := ⟨Tryd.func35, by kernel_rfl, rfl⟩
noncomputable def T_mount_CheckPlaces : Nat → Entry Tryd.prog := nth (Entry.no Tryd.f0) [E_mount_CheckBodies, E_mount_bodyOf, E_netlist_IsPath, E_shape_IsPoint, E_mount_within]
noncomputable def B_mount_CheckPlaces (n : Nat) (x0 : List (ByteArray × (Int × (Int × (Int × (ByteArray × Unit)))))) (x1 : List (ByteArray × (ByteArray × ((Int × (Int × Unit)) × (Int × (Bool × Unit)))))) : Option (((Int × Unit) × (Unit × (Unit × Unit)))) :=
  (bif (!(decide ((S_bods x0 = 0)))) then
    some ((S_bods x0, ()), ((), ((), ())))
  else
    (bif decide ((1000 < ((x1.length : Nat) : Int))) then
      some ((2, ()), ((), ((), ())))
    else
      loopN (fun rec1 => fun
      | ((v1aa, ()), ()) =>
        (bif decide ((v1aa < ((x1.length : Nat) : Int))) then
          (bif inB v1aa x1.length then
            (bif (!(S_path ((x1.getD v1aa.toNat ((strOf []), ((strOf []), ((0, (0, ())), (0, (false, ())))))).1))) then
              some ((5, ()), ((), ((), ())))
            else
              (bif (!(S_thereB x0 (((x1.getD v1aa.toNat ((strOf []), ((strOf []), ((0, (0, ())), (0, (false, ())))))).2).1))) then
                some ((9, ()), ((), ((), ())))
              else
                (bif (!(S_isPt ((((x1.getD v1aa.toNat ((strOf []), ((strOf []), ((0, (0, ())), (0, (false, ())))))).2).2).1))) then
                  some ((1, ()), ((), ((), ())))
                else
                  (bif (!(S_within (((((x1.getD v1aa.toNat ((strOf []), ((strOf []), ((0, (0, ())), (0, (false, ())))))).2).2).2).1) 0 3)) then
                    some ((1, ()), ((), ((), ())))
                  else
                    (bif decide ((0 < v1aa)) then
                      (bif inB (wrapI .i64 (v1aa - 1)) x1.length then
                        (bif (Op.bytesLess (ByteArray.toList ((x1.getD v1aa.toNat ((strOf []), ((strOf []), ((0, (0, ())), (0, (false, ())))))).1)) (ByteArray.toList ((x1.getD ((wrapI .i64 (v1aa - 1)).toNat) ((strOf []), ((strOf []), ((0, (0, ())), (0, (false, ())))))).1)) || decide ((ByteArray.toList ((x1.getD v1aa.toNat ((strOf []), ((strOf []), ((0, (0, ())), (0, (false, ())))))).1) = ByteArray.toList ((x1.getD ((wrapI .i64 (v1aa - 1)).toNat) ((strOf []), ((strOf []), ((0, (0, ())), (0, (false, ())))))).1)))) then
                          some ((8, ()), ((), ((), ())))
                        else
                          rec1 ((wrapI .i64 (v1aa + 1), ()), ()))
                      else
                        none)
                    else
                      rec1 ((wrapI .i64 (v1aa + 1), ()), ()))))))
          else
            none)
        else
          some ((0, ()), ((), ((), ())))))
      n ((0, ()), ())))
theorem B_mount_CheckPlaces_eq (n : Nat) (x0 : List (ByteArray × (Int × (Int × (Int × (ByteArray × Unit)))))) (x1 : List (ByteArray × (ByteArray × ((Int × (Int × Unit)) × (Int × (Bool × Unit)))))) : bodyE ty T_mount_CheckPlaces n I_mount_CheckPlaces (x0, (x1, ())) = B_mount_CheckPlaces n x0 x1 := by kernel_rfl

end Go.Proofs.YtjemgnhklipcjaaDoor
namespace Go.Proofs.YtjemgnhklipcjaaDoor
open Go Go.VM
theorem ok_mount_CheckPlaces (x0 : List Bod) (x1 : List Pla) (hok : OkA I_mount_CheckPlaces.args (x0, x1, ())) : ∃ n, bodyE ty T_mount_CheckPlaces n I_mount_CheckPlaces (x0, x1, ()) = some ((S_plas x0 x1, ()), ((), (), ())) := ⟨x1.length + 1, by
  have hl : x1.length ≤ maxLen := hok.2.1.1
  rw [B_mount_CheckPlaces_eq]
  unfold B_mount_CheckPlaces S_plas
  cases hb : decide (S_bods x0 = 0) with
  | false => rfl
  | true =>
  simp only [Bool.not_true, cond_false, cond_true]
  cases hd : decide ((1000 : Int) < (x1.length : Int)) with
  | true => rfl
  | false =>
    simp only [cond_false]
    refine (loop_list (l := x1) (fun i (_ : Unit) => ((i, ()), ())) (fun a i _ => bif decide (plaC (S_thereB x0) x1 a i = 0) then .inl () else .inr (some ((plaC (S_thereB x0) x1 a i, ()), ((), (), ())))) (fun _ => some ((0, ()), ((), (), ()))) (fun i h s rec => ?_) (fun s rec => by simp only [lt_self, cond_false]) (Nat.lt_succ_self _) ()).trans ?_
    · simp only [lt_nat h, inB_nat h, getD_lt h, succ64 h hl, cond_true]
      unfold plaC
      change (bif !S_path x1[i].1 then _ else _) = _
      cases S_path x1[i].1 with
      | false => rfl
      | true =>
      simp only [Bool.not_true, cond_false]
      cases S_thereB x0 x1[i].2.1 with
      | false => rfl
      | true =>
      simp only [Bool.not_true, cond_false]
      change (bif !isPtV x1[i].2.2.1 then _ else _) = _
      cases isPtV x1[i].2.2.1 with
      | false => rfl
      | true =>
      simp only [Bool.not_true, cond_false]
      cases S_within x1[i].2.2.2.1 0 3 with
      | false => rfl
      | true =>
        simp only [Bool.not_true, cond_false]
        by_cases h0 : 0 < i
        · have e1 : decide ((0 : Int) < (i : Int)) = true := decide_eq_true (by omega)
          have hl' : x1.length ≤ 9223372036854775807 := Nat.le_trans hl (by decide)
          have e2 : wrapI .i64 ((i : Int) - 1) = ((i - 1 : Nat) : Int) := by rw [wrap64 (by omega) (by omega)]; omega
          simp only [e1, e2, decide_eq_true h0, inB_nat (show i - 1 < x1.length by omega), cond_true, Int.toNat_natCast]
          change (bif ble x1[i].1 (x1.getD (i - 1) pla0).1 then _ else _) = _
          cases ble x1[i].1 (x1.getD (i - 1) pla0).1 <;> rfl
        · have e1 : decide ((0 : Int) < (i : Int)) = false := decide_eq_false (by omega)
          simp only [e1, decide_eq_false h0, cond_false]
          rfl
    · rw [first_go (R := fun a => some ((a, ()), ((), (), ())))]
      cases hz : decide (firstC (plaC (S_thereB x0) x1) x1 0 = 0) with
      | true => rw [of_decide_eq_true hz]; rfl
      | false => rfl⟩
noncomputable def E_mount_CheckPlaces : Entry Tryd.prog := Entry.of tok T_mount_CheckPlaces I_mount_CheckPlaces it_mount_CheckPlaces (fun (x0, x1, ()) => some ((S_plas x0 x1, ()), ((), (), ()))) (fun (x0, x1, ()) r hok h => by cases h; exact ok_mount_CheckPlaces x0 x1 hok)

end Go.Proofs.YtjemgnhklipcjaaDoor
namespace Go.Proofs.YtjemgnhklipcjaaDoor
open Go Go.VM
/-! ### etchhouse.mount.CheckReels -/
noncomputable def I_mount_CheckReels : Inst := ⟨44, Tryd.f44, .two (.reg []) (.two (.two (.reg []) (.two (.two (.reg []) (.leaf)) (.leaf))) (.two (.two (.reg []) (.one (.loop ⟨[(10, .pv i)], [], [0, 8, 9], []⟩ (.two (.reg []) (.two (.two (.leaf) (.leaf)) (.two (.one (.two (.reg []) (.one (.two (.reg [(2, 0)]) (.two (.two (.reg []) (.leaf)) (.two (.reg [(2, 1)]) (.two (.two (.reg []) (.leaf)) (.two (.reg [(2, 0)]) (.two (.two (.reg []) (.leaf)) (.two (.draw [] [0, 1, 2, 3, 4, 5, 6, 7, 8, 9, 10, 11, 12, 13] [4]) (.two (.two (.reg []) (.leaf)) (.leaf)))))))))))) (.reg []))))))) (.two (.reg []) (.leaf)))), (.cons (.pv (.sl (.pair i (.pair .str (.pair i .unit))))) .nil), (.cons .flat i .nil)⟩
theorem it_mount_CheckReels : InTab Tryd.prog I_mount_CheckReels := ⟨Tryd.func44, by kernel_rfl, rfl⟩
noncomputable def T_mount_CheckReels : Nat → Entry Tryd.prog := nth (Entry.no Tryd.f0) [E_mount_within, E_netlist_IsWord]
noncomputable def B_mount_CheckReels (n : Nat) (x0 : List (Int × (ByteArray × (Int × Unit)))) : Option (((Int × Unit) × (Unit × Unit))) :=
  (bif decide ((200 < ((x0.length : Nat) : Int))) then
    some ((2, ()), ((), ()))
  else
    loopN (fun rec1 => fun
    | ((v1aa, ()), ()) =>
      (bif decide ((v1aa < ((x0.length : Nat) : Int))) then
        (bif inB v1aa x0.length then
          (bif (!(S_within ((x0.getD v1aa.toNat (0, ((strOf []), (0, ())))).1) 1 10000)) then
            some ((1, ()), ((), ()))
          else
            (bif (!(S_word (((x0.getD v1aa.toNat (0, ((strOf []), (0, ())))).2).1))) then
              some ((5, ()), ((), ()))
            else
              (bif (!(S_within ((((x0.getD v1aa.toNat (0, ((strOf []), (0, ())))).2).2).1) 0 1000000)) then
                some ((1, ()), ((), ()))
              else
                (bif decide ((0 < v1aa)) then
                  (bif inB (wrapI .i64 (v1aa - 1)) x0.length then
                    (bif decide (((x0.getD v1aa.toNat (0, ((strOf []), (0, ())))).1 ≤ (x0.getD ((wrapI .i64 (v1aa - 1)).toNat) (0, ((strOf []), (0, ())))).1)) then
                      some ((8, ()), ((), ()))
                    else
                      rec1 ((wrapI .i64 (v1aa + 1), ()), ()))
                  else
                    none)
                else
                  rec1 ((wrapI .i64 (v1aa + 1), ()), ())))))
        else
          none)
      else
        some ((0, ()), ((), ()))))
    n ((0, ()), ()))
theorem B_mount_CheckReels_eq (n : Nat) (x0 : List (Int × (ByteArray × (Int × Unit)))) : bodyE ty T_mount_CheckReels n I_mount_CheckReels (x0, ()) = B_mount_CheckReels n x0 := by kernel_rfl

end Go.Proofs.YtjemgnhklipcjaaDoor
namespace Go.Proofs.YtjemgnhklipcjaaDoor
open Go Go.VM
theorem ok_mount_CheckReels (x0 : List Reel) (hok : OkA I_mount_CheckReels.args (x0, ())) : ∃ n, bodyE ty T_mount_CheckReels n I_mount_CheckReels (x0, ()) = some ((S_reels x0, ()), ((), ())) := ⟨x0.length + 1, by
  have hl : x0.length ≤ maxLen := hok.1.1
  rw [B_mount_CheckReels_eq]
  exact reels_loop (R := fun a => ((a, ()), ((), ()))) hl (Nat.lt_succ_self _)⟩
noncomputable def E_mount_CheckReels : Entry Tryd.prog := Entry.of tok T_mount_CheckReels I_mount_CheckReels it_mount_CheckReels (fun (x0, ()) => some ((S_reels x0, ()), ((), ()))) (fun (x0, ()) r hok h => by cases h; exact ok_mount_CheckReels x0 hok)

end Go.Proofs.YtjemgnhklipcjaaDoor
namespace Go.Proofs.YtjemgnhklipcjaaDoor
open Go Go.VM
/-! ### slices.Index[[]etchhouse.api.Instead,etchhouse.api.Instead] -/
noncomputable def I_slices_Index_etchhouse_api_Instead_etchhouse_api_Instead : Inst := ⟨105, Tryd.f105, .two (.reg []) (.two (.two (.reg []) (.one (.loop ⟨[(8, .pv i)], [], [0, 3, 7], [3]⟩ (.two (.reg []) (.two (.two (.leaf) (.leaf)) (.two (.one (.two (.reg []) (.two (.draw [] [0, 1, 2, 3, 4, 5] [3]) (.two (.two (.reg []) (.leaf)) (.leaf))))) (.reg []))))))) (.two (.reg []) (.leaf))), (.cons (.pv (.sl (.pair .str (.pair .str .unit)))) (.cons (.pv (.pair .str (.pair .str .unit))) .nil)), (.cons .flat i .nil)⟩
theorem it_slices_Index_etchhouse_api_Instead_etchhouse_api_Instead : InTab Tryd.prog I_slices_Index_etchhouse_api_Instead_etchhouse_api_Instead := ⟨Tryd.func105, by kernel_rfl, rfl⟩
noncomputable def T_slices_Index_etchhouse_api_Instead_etchhouse_api_Instead : Nat → Entry Tryd.prog := nth (Entry.no Tryd.f0) []
noncomputable def B_slices_Index_etchhouse_api_Instead_etchhouse_api_Instead (n : Nat) (x0 : List (ByteArray × (ByteArray × Unit))) (x1 : (ByteArray × (ByteArray × Unit))) : Option (((Int × Unit) × (Unit × (Unit × Unit)))) :=
  loopN (fun rec1 => fun
  | ((v1aa, ()), ()) =>
    (bif decide ((v1aa < ((x0.length : Nat) : Int))) then
      (bif inB v1aa x0.length then
        (bif Ty.eqv (.pair .str (.pair .str .unit)) x1 (x0.getD v1aa.toNat ((strOf []), ((strOf []), ()))) then
          some ((v1aa, ()), ((), ((), ())))
        else
          rec1 ((wrapI .i64 (v1aa + 1), ()), ()))
      else
        none)
    else
      some (((-1), ()), ((), ((), ())))))
  n ((0, ()), ())
theorem B_slices_Index_etchhouse_api_Instead_etchhouse_api_Instead_eq (n : Nat) (x0 : List (ByteArray × (ByteArray × Unit))) (x1 : (ByteArray × (ByteArray × Unit))) : bodyE ty T_slices_Index_etchhouse_api_Instead_etchhouse_api_Instead n I_slices_Index_etchhouse_api_Instead_etchhouse_api_Instead (x0, (x1, ())) = B_slices_Index_etchhouse_api_Instead_etchhouse_api_Instead n x0 x1 := by kernel_rfl

end Go.Proofs.YtjemgnhklipcjaaDoor
namespace Go.Proofs.YtjemgnhklipcjaaDoor
open Go Go.VM
theorem ok_slices_Index_etchhouse_api_Instead_etchhouse_api_Instead (x0 : List (ByteArray × (ByteArray × Unit))) (x1 : (ByteArray × (ByteArray × Unit))) (hok : OkA I_slices_Index_etchhouse_api_Instead_etchhouse_api_Instead.args (x0, x1, ())) : ∃ n, bodyE ty T_slices_Index_etchhouse_api_Instead_etchhouse_api_Instead n I_slices_Index_etchhouse_api_Instead_etchhouse_api_Instead (x0, x1, ()) = some ((S_find (fun a : (ByteArray × (ByteArray × Unit)) => decide (a = x1)) x0, ()), ((), (), ())) := ⟨x0.length + 1, by
  obtain ⟨⟨hl, _⟩, _⟩ := hok
  have hp : (fun a : (ByteArray × (ByteArray × Unit)) => decide (a = x1)) = fun a => (fun x y : (ByteArray × (ByteArray × Unit)) => Ty.eqv (.pair .str (.pair .str .unit)) x y) x1 a := by
    funext a
    rw [show (fun x y : (ByteArray × (ByteArray × Unit)) => Ty.eqv (.pair .str (.pair .str .unit)) x y) x1 a = decide (x1 = a) from (fun x y => by rw [Bool.eq_iff_iff, eqv_iff (t := (.pair .str (.pair .str .unit))) rfl]; simp) x1 a, Bool.eq_iff_iff]
    simp only [decide_eq_true_eq]
    exact ⟨Eq.symm, Eq.symm⟩
  rw [B_slices_Index_etchhouse_api_Instead_etchhouse_api_Instead_eq, hp]
  unfold B_slices_Index_etchhouse_api_Instead_etchhouse_api_Instead
  exact find_loop (p := fun a => (fun x y : (ByteArray × (ByteArray × Unit)) => Ty.eqv (.pair .str (.pair .str .unit)) x y) x1 a) (R := fun b => ((b, ()), ((), (), ()))) (d := ((strOf []), ((strOf []), ()))) hl (Nat.lt_succ_self _)⟩
noncomputable def E_slices_Index_etchhouse_api_Instead_etchhouse_api_Instead : Entry Tryd.prog := Entry.of tok T_slices_Index_etchhouse_api_Instead_etchhouse_api_Instead I_slices_Index_etchhouse_api_Instead_etchhouse_api_Instead it_slices_Index_etchhouse_api_Instead_etchhouse_api_Instead (fun (x0, x1, ()) => some ((S_find (fun a : (ByteArray × (ByteArray × Unit)) => decide (a = x1)) x0, ()), ((), (), ()))) (fun (x0, x1, ()) r hok h => by cases h; exact ok_slices_Index_etchhouse_api_Instead_etchhouse_api_Instead x0 x1 hok)

end Go.Proofs.YtjemgnhklipcjaaDoor
namespace Go.Proofs.YtjemgnhklipcjaaDoor
open Go Go.VM
/-! ### slices.Contains[[]etchhouse.api.Instead,etchhouse.api.Instead] -/
noncomputable def I_slices_Contains_etchhouse_api_Instead_etchhouse_api_Instead : Inst := ⟨84, Tryd.f84, .two (.reg []) (.two (.reg [(2, 0)]) (.leaf)), (.cons (.pv (.sl (.pair .str (.pair .str .unit)))) (.cons (.pv (.pair .str (.pair .str .unit))) .nil)), (.cons .flat .bool .nil)⟩
theorem it_slices_Contains_etchhouse_api_Instead_etchhouse_api_Instead : InTab Tryd.prog I_slices_Contains_etchhouse_api_Instead_etchhouse_api_Instead := ⟨Tryd.func84, by kernel_rfl, rfl⟩
noncomputable def T_slices_Contains_etchhouse_api_Instead_etchhouse_api_Instead : Nat → Entry Tryd.prog := nth (Entry.no Tryd.f0) [E_slices_Index_etchhouse_api_Instead_etchhouse_api_Instead]
noncomputable def B_slices_Contains_etchhouse_api_Instead_etchhouse_api_Instead (x0 : List (ByteArray × (ByteArray × Unit))) (x1 : (ByteArray × (ByteArray × Unit))) : Option (((Bool × Unit) × (Unit × (Unit × Unit)))) :=
  some ((decide ((0 ≤ S_find (fun a => decide ((a = x1))) x0)), ()), ((), ((), ())))
theorem B_slices_Contains_etchhouse_api_Instead_etchhouse_api_Instead_eq (n : Nat) (x0 : List (ByteArray × (ByteArray × Unit))) (x1 : (ByteArray × (ByteArray × Unit))) : bodyE ty T_slices_Contains_etchhouse_api_Instead_etchhouse_api_Instead n I_slices_Contains_etchhouse_api_Instead_etchhouse_api_Instead (x0, (x1, ())) = B_slices_Contains_etchhouse_api_Instead_etchhouse_api_Instead x0 x1 := by kernel_rfl

end Go.Proofs.YtjemgnhklipcjaaDoor
namespace Go.Proofs.YtjemgnhklipcjaaDoor
open Go Go.VM
theorem ok_slices_Contains_etchhouse_api_Instead_etchhouse_api_Instead (x0 : List (ByteArray × (ByteArray × Unit))) (x1 : (ByteArray × (ByteArray × Unit))) (hok : OkA I_slices_Contains_etchhouse_api_Instead_etchhouse_api_Instead.args (x0, x1, ())) : ∃ n, bodyE ty T_slices_Contains_etchhouse_api_Instead_etchhouse_api_Instead n I_slices_Contains_etchhouse_api_Instead_etchhouse_api_Instead (x0, x1, ()) = some ((x0.any (fun a : (ByteArray × (ByteArray × Unit)) => decide (a = x1)), ()), ((), (), ())) := ⟨0, by
  rw [B_slices_Contains_etchhouse_api_Instead_etchhouse_api_Instead_eq, ← find_any]; rfl⟩
noncomputable def E_slices_Contains_etchhouse_api_Instead_etchhouse_api_Instead : Entry Tryd.prog := Entry.of tok T_slices_Contains_etchhouse_api_Instead_etchhouse_api_Instead I_slices_Contains_etchhouse_api_Instead_etchhouse_api_Instead it_slices_Contains_etchhouse_api_Instead_etchhouse_api_Instead (fun (x0, x1, ()) => some ((x0.any (fun a : (ByteArray × (ByteArray × Unit)) => decide (a = x1)), ()), ((), (), ()))) (fun (x0, x1, ()) r hok h => by cases h; exact ok_slices_Contains_etchhouse_api_Instead_etchhouse_api_Instead x0 x1 hok)

end Go.Proofs.YtjemgnhklipcjaaDoor
namespace Go.Proofs.YtjemgnhklipcjaaDoor
open Go Go.VM
/-! ### etchhouse.mount.checkInstead -/
noncomputable def I_mount_checkInstead : Inst := ⟨53, Tryd.f53, .two (.reg []) (.two (.two (.reg []) (.two (.two (.reg []) (.leaf)) (.leaf))) (.two (.two (.reg []) (.one (.loop ⟨[(10, .pv i)], [], [0, 8, 9], []⟩ (.two (.reg []) (.two (.two (.leaf) (.leaf)) (.two (.one (.two (.reg []) (.one (.two (.reg [(2, 0), (7, 0)]) (.two (.two (.reg []) (.leaf)) (.two (.reg []) (.two (.two (.reg []) (.leaf)) (.two (.draw [(4, 1)] [0, 1, 2, 3, 4, 5] [4]) (.two (.two (.reg []) (.leaf)) (.leaf)))))))))) (.reg []))))))) (.two (.reg []) (.leaf)))), (.cons (.pv (.sl (.pair .str (.pair .str .unit)))) .nil), (.cons .flat i .nil)⟩
theorem it_mount_checkInstead : InTab Tryd.prog I_mount_checkInstead := ⟨Tryd.func53, by kernel_rfl, rfl⟩
noncomputable def T_mount_checkInstead : Nat → Entry Tryd.prog := nth (Entry.no Tryd.f0) [E_netlist_IsWord, E_slices_Contains_etchhouse_api_Instead_etchhouse_api_Instead]
noncomputable def B_mount_checkInstead (n : Nat) (x0 : List (ByteArray × (ByteArray × Unit))) : Option (((Int × Unit) × (Unit × Unit))) :=
  (bif decide ((200 < ((x0.length : Nat) : Int))) then
    some ((2, ()), ((), ()))
  else
    loopN (fun rec1 => fun
    | ((v1aa, ()), ()) =>
      (bif decide ((v1aa < ((x0.length : Nat) : Int))) then
        (bif inB v1aa x0.length then
          (bif (!(S_word ((x0.getD v1aa.toNat ((strOf []), ((strOf []), ()))).1))) then
            some ((5, ()), ((), ()))
          else
            (bif (!(S_word (((x0.getD v1aa.toNat ((strOf []), ((strOf []), ()))).2).1))) then
              some ((5, ()), ((), ()))
            else
              (bif decide ((ByteArray.toList ((x0.getD v1aa.toNat ((strOf []), ((strOf []), ()))).1) = ByteArray.toList (((x0.getD v1aa.toNat ((strOf []), ((strOf []), ()))).2).1))) then
                some ((12, ()), ((), ()))
              else
                (bif (decide ((0 ≤ v1aa)) && decide ((v1aa ≤ ((x0.length : Nat) : Int)))) then
                  (bif List.any ((x0.drop 0).take (v1aa.toNat - 0)) (fun a => decide ((a = x0.getD v1aa.toNat ((strOf []), ((strOf []), ()))))) then
                    some ((7, ()), ((), ()))
                  else
                    rec1 ((wrapI .i64 (v1aa + 1), ()), ()))
                else
                  none))))
        else
          none)
      else
        some ((0, ()), ((), ()))))
    n ((0, ()), ()))
theorem B_mount_checkInstead_eq (n : Nat) (x0 : List (ByteArray × (ByteArray × Unit))) : bodyE ty T_mount_checkInstead n I_mount_checkInstead (x0, ()) = B_mount_checkInstead n x0 := by kernel_rfl

end Go.Proofs.YtjemgnhklipcjaaDoor
namespace Go.Proofs.YtjemgnhklipcjaaDoor
open Go Go.VM
theorem ok_mount_checkInstead (x0 : List Ins) (hok : OkA I_mount_checkInstead.args (x0, ())) : ∃ n, bodyE ty T_mount_checkInstead n I_mount_checkInstead (x0, ()) = some ((S_insts x0, ()), ((), ())) := ⟨x0.length + 1, by
  have hl : x0.length ≤ maxLen := hok.1.1
  rw [B_mount_checkInstead_eq]
  exact insts_loop (R := fun a => ((a, ()), ((), ()))) hl (Nat.lt_succ_self _)⟩
noncomputable def E_mount_checkInstead : Entry Tryd.prog := Entry.of tok T_mount_checkInstead I_mount_checkInstead it_mount_checkInstead (fun (x0, ()) => some ((S_insts x0, ()), ((), ()))) (fun (x0, ()) r hok h => by cases h; exact ok_mount_checkInstead x0 hok)

end Go.Proofs.YtjemgnhklipcjaaDoor
namespace Go.Proofs.YtjemgnhklipcjaaDoor
open Go Go.VM
/-! ### etchhouse.mount.isBoards -/
noncomputable def I_mount_isBoards : Inst := ⟨54, Tryd.f54, .two (.reg []) (.two (.reg [(1, 0)]) (.leaf)), (.cons (.pv i) .nil), (.cons .flat .bool .nil)⟩
theorem it_mount_isBoards : InTab Tryd.prog I_mount_isBoards := ⟨Tryd.func54, by kernel_rfl, rfl⟩
noncomputable def T_mount_isBoards : Nat → Entry Tryd.prog := nth (Entry.no Tryd.f0) [E_mount_within]
noncomputable def B_mount_isBoards (x0 : Int) : Option (((Bool × Unit) × (Unit × Unit))) :=
  some ((S_within x0 0 1000, ()), ((), ()))
theorem B_mount_isBoards_eq (n : Nat) (x0 : Int) : bodyE ty T_mount_isBoards n I_mount_isBoards (x0, ()) = B_mount_isBoards x0 := by kernel_rfl

end Go.Proofs.YtjemgnhklipcjaaDoor
namespace Go.Proofs.YtjemgnhklipcjaaDoor
open Go Go.VM
def S_mount_isBoards (x0 : Int) : Bool := S_within x0 0 1000
theorem ok_mount_isBoards (x0 : Int) (hok : OkA I_mount_isBoards.args (x0, ())) : ∃ n, bodyE ty T_mount_isBoards n I_mount_isBoards (x0, ()) = some (((S_mount_isBoards x0), ()), ((), ())) := ⟨0, by rw [B_mount_isBoards_eq]; rfl⟩
noncomputable def E_mount_isBoards : Entry Tryd.prog := Entry.of tok T_mount_isBoards I_mount_isBoards it_mount_isBoards (fun (x0, ()) => some (((S_mount_isBoards x0), ()), ((), ()))) (fun (x0, ()) r hok h => by cases h; exact ok_mount_isBoards x0 hok)

end Go.Proofs.YtjemgnhklipcjaaDoor
namespace Go.Proofs.YtjemgnhklipcjaaDoor
open Go Go.VM
/-! ### slices.Clone[[]etchhouse.api.Reel,etchhouse.api.Reel] -/
noncomputable def I_slices_Clone_etchhouse_api_Reel_etchhouse_api_Reel : Inst := ⟨55, Tryd.f55, .two (.reg []) (.two (.two (.reg []) (.two (.two (.reg []) (.leaf)) (.leaf))) (.two (.reg []) (.leaf))), (.cons (.pv (.sl (.pair i (.pair .str (.pair i .unit))))) .nil), (.cons (.own .flat) (.sl (.pair i (.pair .str (.pair i .unit)))) .nil)⟩
theorem it_slices_Clone_etchhouse_api_Reel_etchhouse_api_Reel : InTab Tryd.prog I_slices_Clone_etchhouse_api_Reel_etchhouse_api_Reel := ⟨Tryd.func55, by kernel_rfl, rfl⟩
noncomputable def T_slices_Clone_etchhouse_api_Reel_etchhouse_api_Reel : Nat → Entry Tryd.prog := nth (Entry.no Tryd.f0) []
noncomputable def B_slices_Clone_etchhouse_api_Reel_etchhouse_api_Reel (x0 : List (Int × (ByteArray × (Int × Unit)))) : Option (((List (Int × (ByteArray × (Int × Unit))) × Unit) × (Unit × Unit))) :=
  (bif x0.isEmpty then
    unk (fun b1 =>
      (bif b1 then
        some (([], ()), ((), ()))
      else
        (bif decide (((0 + x0.length) ≤ 4294967296)) then
          some ((x0, ()), ((), ()))
        else
          none)))
  else
    (bif decide (((0 + x0.length) ≤ 4294967296)) then
      some ((x0, ()), ((), ()))
    else
      none))
theorem B_slices_Clone_etchhouse_api_Reel_etchhouse_api_Reel_eq (n : Nat) (x0 : List (Int × (ByteArray × (Int × Unit)))) : bodyE ty T_slices_Clone_etchhouse_api_Reel_etchhouse_api_Reel n I_slices_Clone_etchhouse_api_Reel_etchhouse_api_Reel (x0, ()) = B_slices_Clone_etchhouse_api_Reel_etchhouse_api_Reel x0 := by kernel_rfl

end Go.Proofs.YtjemgnhklipcjaaDoor
namespace Go.Proofs.YtjemgnhklipcjaaDoor
open Go Go.VM
theorem ok_slices_Clone_etchhouse_api_Reel_etchhouse_api_Reel (x0 : List (Int × (ByteArray × (Int × Unit)))) (hok : OkA I_slices_Clone_etchhouse_api_Reel_etchhouse_api_Reel.args (x0, ())) (r) (h : (bif decide (x0.length ≤ 4294967296) then some ((x0, ()), ((), ())) else none) = some r) : ∃ n, bodyE ty T_slices_Clone_etchhouse_api_Reel_etchhouse_api_Reel n I_slices_Clone_etchhouse_api_Reel_etchhouse_api_Reel (x0, ()) = some r := ⟨0, by
  refine (B_slices_Clone_etchhouse_api_Reel_etchhouse_api_Reel_eq 0 x0).trans (Eq.trans ?_ h)
  unfold B_slices_Clone_etchhouse_api_Reel_etchhouse_api_Reel
  cases x0 with
  | nil =>
    simp only [List.isEmpty_nil, cond_true]
    unfold unk
    exact if_pos rfl
  | cons a l => rw [Nat.zero_add]; rfl⟩
noncomputable def E_slices_Clone_etchhouse_api_Reel_etchhouse_api_Reel : Entry Tryd.prog := Entry.of tok T_slices_Clone_etchhouse_api_Reel_etchhouse_api_Reel I_slices_Clone_etchhouse_api_Reel_etchhouse_api_Reel it_slices_Clone_etchhouse_api_Reel_etchhouse_api_Reel (fun (x0, ()) => bif decide (x0.length ≤ 4294967296) then some ((x0, ()), ((), ())) else none) (fun (x0, ()) r hok h => ok_slices_Clone_etchhouse_api_Reel_etchhouse_api_Reel x0 hok r h)

end Go.Proofs.YtjemgnhklipcjaaDoor
namespace Go.Proofs.YtjemgnhklipcjaaDoor
open Go Go.VM
/-! ### etchhouse.mount.pick$1$1 -/
noncomputable def I_mount_pick_1_1_io : Inst := ⟨87, Tryd.f87, .two (.reg []) (.two (.reg []) (.leaf)), (.cons (.pv (.pair i (.pair .str (.pair i .unit)))) (.cons (.io .flat .str) .nil)), (.cons .flat .bool .nil)⟩
theorem it_mount_pick_1_1_io : InTab Tryd.prog I_mount_pick_1_1_io := ⟨Tryd.func87, by kernel_rfl, rfl⟩
noncomputable def T_mount_pick_1_1_io : Nat → Entry Tryd.prog := nth (Entry.no Tryd.f0) []
noncomputable def B_mount_pick_1_1_io (x0 : (Int × (ByteArray × (Int × Unit)))) (x1 : ByteArray) : Option (((Bool × Unit) × (Unit × (ByteArray × Unit)))) :=
  (bif decide ((ByteArray.toList x0.2.1 = ByteArray.toList x1)) then
    some ((decide ((0 < x0.2.2.1)), ()), ((), (x1, ())))
  else
    some ((false, ()), ((), (x1, ()))))
theorem B_mount_pick_1_1_io_eq (n : Nat) (x0 : (Int × (ByteArray × (Int × Unit)))) (x1 : ByteArray) : bodyE ty T_mount_pick_1_1_io n I_mount_pick_1_1_io (x0, (x1, ())) = B_mount_pick_1_1_io x0 x1 := by kernel_rfl

end Go.Proofs.YtjemgnhklipcjaaDoor
namespace Go.Proofs.YtjemgnhklipcjaaDoor
open Go Go.VM
noncomputable def E_mount_pick_1_1_io : Entry Tryd.prog := Entry.of tok T_mount_pick_1_1_io I_mount_pick_1_1_io it_mount_pick_1_1_io (fun x => B_mount_pick_1_1_io x.1 x.2.1) (fun (a0, a1, ()) r _ h => ⟨0, (B_mount_pick_1_1_io_eq 0 a0 a1).trans h⟩)

end Go.Proofs.YtjemgnhklipcjaaDoor
namespace Go.Proofs.YtjemgnhklipcjaaDoor
open Go Go.VM
/-! ### slices.IndexFunc[[]etchhouse.api.Reel,etchhouse.api.Reel] -/
noncomputable def I_slices_IndexFunc_etchhouse_api_Reel_etchhouse_api_Reel_of_mount_pick_1_1 : Inst := ⟨86, Tryd.f86, .two (.reg []) (.two (.two (.reg []) (.one (.loop ⟨[(8, .pv i)], [(1010, ⟨.flat, .str, true, true⟩)], [0, 1, 7], []⟩ (.two (.reg []) (.two (.two (.leaf) (.leaf)) (.two (.one (.two (.reg []) (.two (.reg [(5, 0)]) (.two (.two (.reg []) (.leaf)) (.leaf))))) (.reg []))))))) (.two (.reg []) (.leaf))), (.cons (.pv (.sl (.pair i (.pair .str (.pair i .unit))))) (.cons (.fn 87 (.cons (.io .flat .str) .nil)) .nil)), (.cons .flat i .nil)⟩
theorem it_slices_IndexFunc_etchhouse_api_Reel_etchhouse_api_Reel_of_mount_pick_1_1 : InTab Tryd.prog I_slices_IndexFunc_etchhouse_api_Reel_etchhouse_api_Reel_of_mount_pick_1_1 := ⟨Tryd.func86, by kernel_rfl, rfl⟩
noncomputable def T_slices_IndexFunc_etchhouse_api_Reel_etchhouse_api_Reel_of_mount_pick_1_1 : Nat → Entry Tryd.prog := nth (Entry.no Tryd.f0) [E_mount_pick_1_1_io]
noncomputable def B_slices_IndexFunc_etchhouse_api_Reel_etchhouse_api_Reel_of_mount_pick_1_1 (n : Nat) (x0 : List (Int × (ByteArray × (Int × Unit)))) (x1 : (ByteArray × Unit)) : Option (((Int × Unit) × (Unit × ((ByteArray × Unit) × Unit)))) :=
  loopN (fun rec1 => fun
  | ((v1aa, ()), (v1ba, ())) =>
    (bif decide ((v1aa < ((x0.length : Nat) : Int))) then
      (bif inB v1aa x0.length then
        ((B_mount_pick_1_1_io (x0.getD v1aa.toNat (0, ((strOf []), (0, ())))) v1ba).bind fun ((r2aa, ()), ((), (r2bba, ()))) =>
        (bif r2aa then
          some ((v1aa, ()), ((), ((r2bba, ()), ())))
        else
          rec1 ((wrapI .i64 (v1aa + 1), ()), (r2bba, ()))))
      else
        none)
    else
      some (((-1), ()), ((), ((v1ba, ()), ())))))
  n ((0, ()), (x1.1, ()))
theorem B_slices_IndexFunc_etchhouse_api_Reel_etchhouse_api_Reel_of_mount_pick_1_1_eq (n : Nat) (x0 : List (Int × (ByteArray × (Int × Unit)))) (x1 : (ByteArray × Unit)) : bodyE ty T_slices_IndexFunc_etchhouse_api_Reel_etchhouse_api_Reel_of_mount_pick_1_1 n I_slices_IndexFunc_etchhouse_api_Reel_etchhouse_api_Reel_of_mount_pick_1_1 (x0, (x1, ())) = B_slices_IndexFunc_etchhouse_api_Reel_etchhouse_api_Reel_of_mount_pick_1_1 n x0 x1 := by kernel_rfl

end Go.Proofs.YtjemgnhklipcjaaDoor
namespace Go.Proofs.YtjemgnhklipcjaaDoor
open Go Go.VM
theorem ok_slices_IndexFunc_etchhouse_api_Reel_etchhouse_api_Reel_of_mount_pick_1_1 (x0 : List Reel) (x1_0 : ByteArray) (hok : OkA I_slices_IndexFunc_etchhouse_api_Reel_etchhouse_api_Reel_of_mount_pick_1_1.args (x0, (x1_0, ()), ())) : ∃ n, bodyE ty T_slices_IndexFunc_etchhouse_api_Reel_etchhouse_api_Reel_of_mount_pick_1_1 n I_slices_IndexFunc_etchhouse_api_Reel_etchhouse_api_Reel_of_mount_pick_1_1 (x0, (x1_0, ()), ()) = some ((S_reel1 x0 x1_0, ()), ((), (x1_0, ()), ())) := ⟨x0.length + 1, by
  have hl : x0.length ≤ maxLen := hok.1.1
  rw [B_slices_IndexFunc_etchhouse_api_Reel_etchhouse_api_Reel_of_mount_pick_1_1_eq]
  unfold B_slices_IndexFunc_etchhouse_api_Reel_etchhouse_api_Reel_of_mount_pick_1_1 S_reel1
  refine (loop_list (l := x0) (fun i (_ : Unit) => ((i, ()), (x1_0, ()))) (fun a i _ => bif reelP x1_0 a then .inr (some (((i : Int), ()), ((), (x1_0, ()), ()))) else .inl ()) (fun _ => some ((-1, ()), ((), (x1_0, ()), ()))) (fun i h s rec => ?_) (fun s rec => by simp only [lt_self, cond_false]) (Nat.lt_succ_self _) ()).trans (find_go (R := fun a => ((a, ()), ((), (x1_0, ()), ()))) x0 0)
  unfold B_mount_pick_1_1_io reelP
  simp only [lt_nat h, inB_nat h, getD_lt h, succ64 h hl, cond_true, str_dec]
  cases decide (x0[i].2.1 = x1_0) <;> cases decide (0 < x0[i].2.2.1) <;> rfl⟩
noncomputable def E_slices_IndexFunc_etchhouse_api_Reel_etchhouse_api_Reel_of_mount_pick_1_1 : Entry Tryd.prog := Entry.of tok T_slices_IndexFunc_etchhouse_api_Reel_etchhouse_api_Reel_of_mount_pick_1_1 I_slices_IndexFunc_etchhouse_api_Reel_etchhouse_api_Reel_of_mount_pick_1_1 it_slices_IndexFunc_etchhouse_api_Reel_etchhouse_api_Reel_of_mount_pick_1_1 (fun (x0, (x1_0, ()), ()) => some ((S_reel1 x0 x1_0, ()), ((), (x1_0, ()), ()))) (fun (x0, (x1_0, ()), ()) r hok h => by cases h; exact ok_slices_IndexFunc_etchhouse_api_Reel_etchhouse_api_Reel_of_mount_pick_1_1 x0 x1_0 hok)

end Go.Proofs.YtjemgnhklipcjaaDoor
namespace Go.Proofs.YtjemgnhklipcjaaDoor
open Go Go.VM
/-! ### etchhouse.mount.pick$1 -/
noncomputable def I_mount_pick_1_io : Inst := ⟨85, Tryd.f85, .two (.reg []) (.two (.reg [(2, 0)]) (.leaf)), (.cons (.pv .str) (.cons (.io .flat (.sl (.pair i (.pair .str (.pair i .unit))))) .nil)), (.cons .flat i .nil)⟩
theorem it_mount_pick_1_io : InTab Tryd.prog I_mount_pick_1_io := ⟨Tryd.func85, by kernel_rfl, rfl⟩
noncomputable def T_mount_pick_1_io : Nat → Entry Tryd.prog := nth (Entry.no Tryd.f0) [E_slices_IndexFunc_etchhouse_api_Reel_etchhouse_api_Reel_of_mount_pick_1_1]
noncomputable def B_mount_pick_1_io (x0 : ByteArray) (x1 : List (Int × (ByteArray × (Int × Unit)))) : Option (((Int × Unit) × (Unit × (List (Int × (ByteArray × (Int × Unit))) × Unit)))) :=
  some ((S_reel1 x1 x0, ()), ((), (x1, ())))
theorem B_mount_pick_1_io_eq (n : Nat) (x0 : ByteArray) (x1 : List (Int × (ByteArray × (Int × Unit)))) : bodyE ty T_mount_pick_1_io n I_mount_pick_1_io (x0, (x1, ())) = B_mount_pick_1_io x0 x1 := by kernel_rfl

end Go.Proofs.YtjemgnhklipcjaaDoor
namespace Go.Proofs.YtjemgnhklipcjaaDoor
open Go Go.VM
noncomputable def E_mount_pick_1_io : Entry Tryd.prog := Entry.of tok T_mount_pick_1_io I_mount_pick_1_io it_mount_pick_1_io (fun x => B_mount_pick_1_io x.1 x.2.1) (fun (a0, a1, ()) r _ h => ⟨0, (B_mount_pick_1_io_eq 0 a0 a1).trans h⟩)

end Go.Proofs.YtjemgnhklipcjaaDoor
namespace Go.Proofs.YtjemgnhklipcjaaDoor
open Go Go.VM
/-! ### etchhouse.mount.pick -/
noncomputable def I_mount_pick : Inst := ⟨56, Tryd.f56, .two (.reg []) (.two (.reg []) (.two (.reg [(2, 0)]) (.two (.two (.reg []) (.one (.loop ⟨[(8, .pv i), (17, .pv i)], [(3, ⟨.flat, (.sl (.pair i (.pair .str (.pair i .unit)))), true, false⟩)], [2, 7, 15, 16], []⟩ (.two (.reg []) (.two (.two (.leaf) (.leaf)) (.two (.one (.two (.reg []) (.two (.reg []) (.two (.reg [(3, 0)]) (.leaf))))) (.reg []))))))) (.two (.reg []) (.leaf))))), (.cons (.pv (.sl (.pair i (.pair .str (.pair i .unit))))) (.cons (.pv (.sl (.pair .str (.pair .str .unit)))) (.cons (.pv .str) .nil))), (.cons .flat i .nil)⟩
theorem it_mount_pick : InTab Tryd.prog I_mount_pick := ⟨Tryd.func56, by kernel_rfl, rfl⟩
noncomputable def T_mount_pick : Nat → Entry Tryd.prog := nth (Entry.no Tryd.f0) [E_mount_pick_1_io]
noncomputable def B_mount_pick (n : Nat) (x0 : List (Int × (ByteArray × (Int × Unit)))) (x1 : List (ByteArray × (ByteArray × Unit))) (x2 : ByteArray) : Option (((Int × Unit) × (Unit × (Unit × (Unit × Unit))))) :=
  ((B_mount_pick_1_io x2 x0).bind fun ((r1aa, ()), ((), (r1bba, ()))) =>
  loopN (fun rec2 => fun
  | ((v2aa, (v2aba, ())), (v2ba, ())) =>
    (bif decide ((v2aba < ((x1.length : Nat) : Int))) then
      (bif inB v2aba x1.length then
        (bif decide ((v2aa < 0)) then
          (bif decide ((ByteArray.toList ((x1.getD v2aba.toNat ((strOf []), ((strOf []), ()))).1) = ByteArray.toList x2)) then
            ((B_mount_pick_1_io (((x1.getD v2aba.toNat ((strOf []), ((strOf []), ()))).2).1) v2ba).bind fun ((r3aa, ()), ((), (r3bba, ()))) =>
            rec2 ((r3aa, (wrapI .i64 (v2aba + 1), ())), (r3bba, ())))
          else
            rec2 ((v2aa, (wrapI .i64 (v2aba + 1), ())), (v2ba, ())))
        else
          rec2 ((v2aa, (wrapI .i64 (v2aba + 1), ())), (v2ba, ())))
      else
        none)
    else
      some ((v2aa, ()), ((), ((), ((), ()))))))
  n ((r1aa, (0, ())), (r1bba, ())))
theorem B_mount_pick_eq (n : Nat) (x0 : List (Int × (ByteArray × (Int × Unit)))) (x1 : List (ByteArray × (ByteArray × Unit))) (x2 : ByteArray) : bodyE ty T_mount_pick n I_mount_pick (x0, (x1, (x2, ()))) = B_mount_pick n x0 x1 x2 := by kernel_rfl

end Go.Proofs.YtjemgnhklipcjaaDoor
namespace Go.Proofs.YtjemgnhklipcjaaDoor
open Go Go.VM
theorem ok_mount_pick (x0 : List Reel) (x1 : List Ins) (x2 : ByteArray) (hok : OkA I_mount_pick.args (x0, x1, x2, ())) : ∃ n, bodyE ty T_mount_pick n I_mount_pick (x0, x1, x2, ()) = some ((S_pickR x0 x1 x2, ()), ((), (), (), ())) := ⟨x1.length + 1, by
  have hl : x1.length ≤ maxLen := hok.2.1.1
  rw [B_mount_pick_eq]
  unfold B_mount_pick S_pickR B_mount_pick_1_io
  simp only [Option.bind_some]
  rw [← foldI_foldl (pickQ x0 x2) x1 0]
  refine loop_fold (l := x1) (fun i (k : Int) => ((k, (i, ())), (x0, ()))) (fun _ _ => True) (fun a _ s => pickQ x0 x2 s a) (fun k => some ((k, ()), ((), (), (), ()))) (fun i h s _ => ⟨trivial, fun rec => ?_⟩) (fun s _ rec => by simp only [lt_self, cond_false]) (Nat.lt_succ_self _) (s := S_reel1 x0 x2) trivial
  unfold pickQ
  simp only [lt_nat h, inB_nat h, getD_lt h, succ64 h hl, cond_true, str_dec]
  cases decide (s < 0) <;> cases decide (x1[i].1 = x2) <;> rfl⟩
noncomputable def E_mount_pick : Entry Tryd.prog := Entry.of tok T_mount_pick I_mount_pick it_mount_pick (fun (x0, x1, x2, ()) => some ((S_pickR x0 x1 x2, ()), ((), (), (), ()))) (fun (x0, x1, x2, ()) r hok h => by cases h; exact ok_mount_pick x0 x1 x2 hok)

end Go.Proofs.YtjemgnhklipcjaaDoor
namespace Go.Proofs.YtjemgnhklipcjaaDoor
open Go Go.VM
/-! ### etchhouse.mount.Picks -/
noncomputable def I_mount_Picks : Inst := ⟨19, Tryd.f19, .two (.reg []) (.two (.two (.reg [(2, 0)]) (.two (.reg []) (.two (.two (.reg []) (.leaf)) (.leaf)))) (.two (.two (.reg [(1, 1)]) (.two (.reg []) (.two (.two (.reg []) (.leaf)) (.leaf)))) (.two (.two (.reg [(1, 2)]) (.two (.reg []) (.two (.two (.reg []) (.leaf)) (.leaf)))) (.two (.two (.reg [(1, 3)]) (.two (.two (.reg []) (.leaf)) (.leaf))) (.two (.two (.reg []) (.two (.two (.reg []) (.leaf)) (.leaf))) (.two (.reg [(1, 4)]) (.two (.reg []) (.two (.two (.reg []) (.one (.loop ⟨[(16, .st (.at (.rf 16 []))), (17, .pv i)], [(16, ⟨(.own .flat), (.sl (.pair i (.pair .str (.pair .str (.pair i .unit))))), false, false⟩), (2, ⟨(.own .flat), (.sl (.pair i (.pair .str (.pair i .unit)))), false, false⟩)], [1, 2, 3, 4], []⟩ (.two (.two (.reg []) (.two (.leaf) (.leaf))) (.two (.one (.two (.reg []) (.one (.loop ⟨[(16, .st (.at (.rf 16 []))), (55, .pv i)], [(16, ⟨(.own .flat), (.sl (.pair i (.pair .str (.pair .str (.pair i .unit))))), false, false⟩), (2, ⟨(.own .flat), (.sl (.pair i (.pair .str (.pair i .unit)))), false, false⟩)], [1, 2, 3, 4, 17, 53, 54], []⟩ (.two (.reg []) (.two (.two (.leaf) (.leaf)) (.two (.one (.two (.reg []) (.two (.reg []) (.two (.two (.reg [(4, 5)]) (.two (.reg []) (.two (.two (.reg []) (.draw [] [0, 1, 2, 3, 4, 5, 6, 7, 8, 9, 10, 11, 12, 13] [2, 20])) (.leaf)))) (.reg []))))) (.reg [])))))))) (.reg [])))))) (.two (.reg []) (.leaf)))))))))), (.cons (.pv (.sl (.pair .str (.pair i (.pair i (.pair i (.pair .str .unit))))))) (.cons (.pv (.sl (.pair .str (.pair .str (.pair (.pair i (.pair i .unit)) (.pair i (.pair .bool .unit))))))) (.cons (.pv (.sl (.pair i (.pair .str (.pair i .unit))))) (.cons (.pv (.sl (.pair .str (.pair .str .unit)))) (.cons (.pv i) .nil))))), (.cons (.own .flat) (.sl (.pair i (.pair .str (.pair .str (.pair i .unit))))) (.cons (.own .flat) (.sl (.pair i (.pair .str (.pair i .unit)))) (.cons .flat i .nil)))⟩
theorem it_mount_Picks : InTab Tryd.prog I_mount_Picks := ⟨Tryd.func19, by kernel_rfl, rfl⟩
noncomputable def T_mount_Picks : Nat → Entry Tryd.prog := nth (Entry.no Tryd.f0) [E_mount_CheckPlaces, E_mount_CheckReels, E_mount_checkInstead, E_mount_isBoards, E_slices_Clone_etchhouse_api_Reel_etchhouse_api_Reel, E_mount_pick]
noncomputable def B_mount_Picks (n : Nat) (x0 : List (ByteArray × (Int × (Int × (Int × (ByteArray × Unit)))))) (x1 : List (ByteArray × (ByteArray × ((Int × (Int × Unit)) × (Int × (Bool × Unit)))))) (x2 : List (Int × (ByteArray × (Int × Unit)))) (x3 : List (ByteArray × (ByteArray × Unit))) (x4 : Int) : Option (((List (Int × (ByteArray × (ByteArray × (Int × Unit)))) × (List (Int × (ByteArray × (Int × Unit))) × (Int × Unit))) × (Unit × (Unit × (Unit × (Unit × (Unit × Unit))))))) :=
  (bif (!(decide ((S_plas x0 x1 = 0)))) then
    some (([], ([], (S_plas x0 x1, ()))), ((), ((), ((), ((), ((), ()))))))
  else
    (bif (!(decide ((S_reels x2 = 0)))) then
      some (([], ([], (S_reels x2, ()))), ((), ((), ((), ((), ((), ()))))))
    else
      (bif (!(decide ((S_insts x3 = 0)))) then
        some (([], ([], (S_insts x3, ()))), ((), ((), ((), ((), ((), ()))))))
      else
        (bif (!(S_mount_isBoards x4)) then
          some (([], ([], (1, ()))), ((), ((), ((), ((), ((), ()))))))
        else
          (bif decide ((20000 < wrapI .i64 (x4 * ((x1.length : Nat) : Int)))) then
            some (([], ([], (2, ()))), ((), ((), ((), ((), ((), ()))))))
          else
            (((bif decide ((x2.length ≤ 4294967296)) then
                some ((x2, ()), ((), ()))
              else
                none)).bind fun ((r1aa, ()), ((), ())) =>
            loopN (fun rec2 => fun
            | ((v2aa, ()), (v2ba, (v2bba, ()))) =>
              (bif decide ((v2aa ≤ x4)) then
                loopN (fun rec3 => fun
                | ((v3aa, ()), (v3ba, (v3bba, ()))) =>
                  (bif decide ((v3aa < ((x1.length : Nat) : Int))) then
                    (bif inB v3aa x1.length then
                      (bif decide ((0 ≤ S_pickR v3bba x3 (((x1.getD v3aa.toNat ((strOf []), ((strOf []), ((0, (0, ())), (0, (false, ())))))).2).1))) then
                        (bif inB (S_pickR v3bba x3 (((x1.getD v3aa.toNat ((strOf []), ((strOf []), ((0, (0, ())), (0, (false, ())))))).2).1)) v3bba.length then
                          (bif inB (S_pickR v3bba x3 (((x1.getD v3aa.toNat ((strOf []), ((strOf []), ((0, (0, ())), (0, (false, ())))))).2).1)) v3bba.length then
                            (bif inB (S_pickR v3bba x3 (((x1.getD v3aa.toNat ((strOf []), ((strOf []), ((0, (0, ())), (0, (false, ())))))).2).1)) ((v3bba.set ((S_pickR v3bba x3 (((x1.getD v3aa.toNat ((strOf []), ((strOf []), ((0, (0, ())), (0, (false, ())))))).2).1)).toNat) ((v3bba.getD ((S_pickR v3bba x3 (((x1.getD v3aa.toNat ((strOf []), ((strOf []), ((0, (0, ())), (0, (false, ())))))).2).1)).toNat) (0, ((strOf []), (0, ())))).1, (((v3bba.getD ((S_pickR v3bba x3 (((x1.getD v3aa.toNat ((strOf []), ((strOf []), ((0, (0, ())), (0, (false, ())))))).2).1)).toNat) (0, ((strOf []), (0, ())))).2).1, (wrapI .i64 ((((v3bba.getD ((S_pickR v3bba x3 (((x1.getD v3aa.toNat ((strOf []), ((strOf []), ((0, (0, ())), (0, (false, ())))))).2).1)).toNat) (0, ((strOf []), (0, ())))).2).2).1 - 1), (((v3bba.getD ((S_pickR v3bba x3 (((x1.getD v3aa.toNat ((strOf []), ((strOf []), ((0, (0, ())), (0, (false, ())))))).2).1)).toNat) (0, ((strOf []), (0, ())))).2).2).2)))).length) then
                              (bif inB (S_pickR v3bba x3 (((x1.getD v3aa.toNat ((strOf []), ((strOf []), ((0, (0, ())), (0, (false, ())))))).2).1)) ((v3bba.set ((S_pickR v3bba x3 (((x1.getD v3aa.toNat ((strOf []), ((strOf []), ((0, (0, ())), (0, (false, ())))))).2).1)).toNat) ((v3bba.getD ((S_pickR v3bba x3 (((x1.getD v3aa.toNat ((strOf []), ((strOf []), ((0, (0, ())), (0, (false, ())))))).2).1)).toNat) (0, ((strOf []), (0, ())))).1, (((v3bba.getD ((S_pickR v3bba x3 (((x1.getD v3aa.toNat ((strOf []), ((strOf []), ((0, (0, ())), (0, (false, ())))))).2).1)).toNat) (0, ((strOf []), (0, ())))).2).1, (wrapI .i64 ((((v3bba.getD ((S_pickR v3bba x3 (((x1.getD v3aa.toNat ((strOf []), ((strOf []), ((0, (0, ())), (0, (false, ())))))).2).1)).toNat) (0, ((strOf []), (0, ())))).2).2).1 - 1), (((v3bba.getD ((S_pickR v3bba x3 (((x1.getD v3aa.toNat ((strOf []), ((strOf []), ((0, (0, ())), (0, (false, ())))))).2).1)).toNat) (0, ((strOf []), (0, ())))).2).2).2)))).length) then
                                (bif decide (((v3ba.length + 1) ≤ 4294967296)) then
                                  rec3 ((wrapI .i64 (v3aa + 1), ()), ((v3ba ++ [(v2aa, ((x1.getD v3aa.toNat ((strOf []), ((strOf []), ((0, (0, ())), (0, (false, ())))))).1, ((((v3bba.set ((S_pickR v3bba x3 (((x1.getD v3aa.toNat ((strOf []), ((strOf []), ((0, (0, ())), (0, (false, ())))))).2).1)).toNat) ((v3bba.getD ((S_pickR v3bba x3 (((x1.getD v3aa.toNat ((strOf []), ((strOf []), ((0, (0, ())), (0, (false, ())))))).2).1)).toNat) (0, ((strOf []), (0, ())))).1, (((v3bba.getD ((S_pickR v3bba x3 (((x1.getD v3aa.toNat ((strOf []), ((strOf []), ((0, (0, ())), (0, (false, ())))))).2).1)).toNat) (0, ((strOf []), (0, ())))).2).1, (wrapI .i64 ((((v3bba.getD ((S_pickR v3bba x3 (((x1.getD v3aa.toNat ((strOf []), ((strOf []), ((0, (0, ())), (0, (false, ())))))).2).1)).toNat) (0, ((strOf []), (0, ())))).2).2).1 - 1), (((v3bba.getD ((S_pickR v3bba x3 (((x1.getD v3aa.toNat ((strOf []), ((strOf []), ((0, (0, ())), (0, (false, ())))))).2).1)).toNat) (0, ((strOf []), (0, ())))).2).2).2)))).getD ((S_pickR v3bba x3 (((x1.getD v3aa.toNat ((strOf []), ((strOf []), ((0, (0, ())), (0, (false, ())))))).2).1)).toNat) (0, ((strOf []), (0, ())))).2).1, (((v3bba.set ((S_pickR v3bba x3 (((x1.getD v3aa.toNat ((strOf []), ((strOf []), ((0, (0, ())), (0, (false, ())))))).2).1)).toNat) ((v3bba.getD ((S_pickR v3bba x3 (((x1.getD v3aa.toNat ((strOf []), ((strOf []), ((0, (0, ())), (0, (false, ())))))).2).1)).toNat) (0, ((strOf []), (0, ())))).1, (((v3bba.getD ((S_pickR v3bba x3 (((x1.getD v3aa.toNat ((strOf []), ((strOf []), ((0, (0, ())), (0, (false, ())))))).2).1)).toNat) (0, ((strOf []), (0, ())))).2).1, (wrapI .i64 ((((v3bba.getD ((S_pickR v3bba x3 (((x1.getD v3aa.toNat ((strOf []), ((strOf []), ((0, (0, ())), (0, (false, ())))))).2).1)).toNat) (0, ((strOf []), (0, ())))).2).2).1 - 1), (((v3bba.getD ((S_pickR v3bba x3 (((x1.getD v3aa.toNat ((strOf []), ((strOf []), ((0, (0, ())), (0, (false, ())))))).2).1)).toNat) (0, ((strOf []), (0, ())))).2).2).2)))).getD ((S_pickR v3bba x3 (((x1.getD v3aa.toNat ((strOf []), ((strOf []), ((0, (0, ())), (0, (false, ())))))).2).1)).toNat) (0, ((strOf []), (0, ())))).1, ()))))]), (v3bba.set ((S_pickR v3bba x3 (((x1.getD v3aa.toNat ((strOf []), ((strOf []), ((0, (0, ())), (0, (false, ())))))).2).1)).toNat) ((v3bba.getD ((S_pickR v3bba x3 (((x1.getD v3aa.toNat ((strOf []), ((strOf []), ((0, (0, ())), (0, (false, ())))))).2).1)).toNat) (0, ((strOf []), (0, ())))).1, (((v3bba.getD ((S_pickR v3bba x3 (((x1.getD v3aa.toNat ((strOf []), ((strOf []), ((0, (0, ())), (0, (false, ())))))).2).1)).toNat) (0, ((strOf []), (0, ())))).2).1, (wrapI .i64 ((((v3bba.getD ((S_pickR v3bba x3 (((x1.getD v3aa.toNat ((strOf []), ((strOf []), ((0, (0, ())), (0, (false, ())))))).2).1)).toNat) (0, ((strOf []), (0, ())))).2).2).1 - 1), (((v3bba.getD ((S_pickR v3bba x3 (((x1.getD v3aa.toNat ((strOf []), ((strOf []), ((0, (0, ())), (0, (false, ())))))).2).1)).toNat) (0, ((strOf []), (0, ())))).2).2).2))), ())))
                                else
                                  none)
                              else
                                none)
                            else
                              none)
                          else
                            none)
                        else
                          none)
                      else
                        (bif decide (((v3ba.length + 1) ≤ 4294967296)) then
                          rec3 ((wrapI .i64 (v3aa + 1), ()), ((v3ba ++ [(v2aa, ((x1.getD v3aa.toNat ((strOf []), ((strOf []), ((0, (0, ())), (0, (false, ())))))).1, (((x1.getD v3aa.toNat ((strOf []), ((strOf []), ((0, (0, ())), (0, (false, ())))))).2).1, (0, ()))))]), (v3bba, ())))
                        else
                          none))
                    else
                      none)
                  else
                    rec2 ((wrapI .i64 (v2aa + 1), ()), (v3ba, (v3bba, ())))))
                n ((0, ()), (v2ba, (v2bba, ())))
              else
                some ((v2ba, (v2bba, (0, ()))), ((), ((), ((), ((), ((), ()))))))))
            n ((1, ()), ([], (r1aa, ())))))))))
theorem B_mount_Picks_eq (n : Nat) (x0 : List (ByteArray × (Int × (Int × (Int × (ByteArray × Unit)))))) (x1 : List (ByteArray × (ByteArray × ((Int × (Int × Unit)) × (Int × (Bool × Unit)))))) (x2 : List (Int × (ByteArray × (Int × Unit)))) (x3 : List (ByteArray × (ByteArray × Unit))) (x4 : Int) : bodyE ty T_mount_Picks n I_mount_Picks (x0, (x1, (x2, (x3, (x4, ()))))) = B_mount_Picks n x0 x1 x2 x3 x4 := by kernel_rfl

end Go.Proofs.YtjemgnhklipcjaaDoor
namespace Go.Proofs.YtjemgnhklipcjaaDoor
open Go Go.VM
theorem ok_mount_Picks (x0 : List Bod) (x1 : List Pla) (x2 : List Reel) (x3 : List Ins) (x4 : Int) (hok : OkA I_mount_Picks.args (x0, x1, x2, x3, x4, ())) : ∃ n, bodyE ty T_mount_Picks n I_mount_Picks (x0, x1, x2, x3, x4, ()) = some (((S_pk x0 x1 x2 x3 x4).1, (S_pk x0 x1 x2 x3 x4).2, S_pkE x0 x1 x2 x3 x4, ()), ((), (), (), (), (), ())) := ⟨x1.length + 1001, by
  have hl : x1.length ≤ maxLen := hok.2.1.1
  rw [B_mount_Picks_eq]
  unfold B_mount_Picks S_pk S_mount_isBoards
  cases hz : decide (S_pkE x0 x1 x2 x3 x4 = 0) with
  | true =>
    obtain ⟨h1, h2, h3, h4, h5, h6, N, rfl, hN, hm⟩ := pk_at (of_decide_eq_true hz)
    have hr := reels_len h2
    rw [of_decide_eq_true hz]
    simp only [h1, h2, h3, h4, h5, decide_true, Bool.not_true, cond_false, cond_true, decide_eq_true (show x2.length ≤ 4294967296 by omega), Option.bind_some, Int.toNat_natCast]
    exact picks_loop (R := fun a b => ((a, b, 0, ()), ((), (), (), (), (), ()))) hl hm hN (by omega) (by omega)
  | false =>
    simp only [cond_false]
    unfold S_pkE at hz ⊢
    cases h1 : decide (S_plas x0 x1 = 0) with
    | false => rfl
    | true =>
    cases h2 : decide (S_reels x2 = 0) with
    | false => rfl
    | true =>
    cases h3 : decide (S_insts x3 = 0) with
    | false => rfl
    | true =>
    cases h4 : S_within x4 0 1000 with
    | false => rfl
    | true =>
    cases h5 : decide (20000 < wrapI .i64 (x4 * (x1.length : Int))) with
    | true => rfl
    | false => rw [h1, h2, h3, h4, h5] at hz; cases hz⟩
noncomputable def E_mount_Picks : Entry Tryd.prog := Entry.of tok T_mount_Picks I_mount_Picks it_mount_Picks (fun (x0, x1, x2, x3, x4, ()) => some (((S_pk x0 x1 x2 x3 x4).1, (S_pk x0 x1 x2 x3 x4).2, S_pkE x0 x1 x2 x3 x4, ()), ((), (), (), (), (), ()))) (fun (x0, x1, x2, x3, x4, ()) r hok h => by cases h; exact ok_mount_Picks x0 x1 x2 x3 x4 hok)

end Go.Proofs.YtjemgnhklipcjaaDoor
namespace Go.Proofs.YtjemgnhklipcjaaDoor
open Go Go.VM
/-! ### slices.Clone[[]bool,bool] -/
noncomputable def I_slices_Clone_bool_bool : Inst := ⟨80, Tryd.f80, .two (.reg []) (.two (.two (.reg []) (.two (.two (.reg []) (.leaf)) (.leaf))) (.two (.reg []) (.leaf))), (.cons (.pv (.sl .bool)) .nil), (.cons (.own .flat) (.sl .bool) .nil)⟩
theorem it_slices_Clone_bool_bool : InTab Tryd.prog I_slices_Clone_bool_bool := ⟨Tryd.func80, by kernel_rfl, rfl⟩
noncomputable def T_slices_Clone_bool_bool : Nat → Entry Tryd.prog := nth (Entry.no Tryd.f0) []
noncomputable def B_slices_Clone_bool_bool (x0 : List Bool) : Option (((List Bool × Unit) × (Unit × Unit))) :=
  (bif x0.isEmpty then
    unk (fun b1 =>
      (bif b1 then
        some (([], ()), ((), ()))
      else
        (bif decide (((0 + x0.length) ≤ 4294967296)) then
          some ((x0, ()), ((), ()))
        else
          none)))
  else
    (bif decide (((0 + x0.length) ≤ 4294967296)) then
      some ((x0, ()), ((), ()))
    else
      none))
theorem B_slices_Clone_bool_bool_eq (n : Nat) (x0 : List Bool) : bodyE ty T_slices_Clone_bool_bool n I_slices_Clone_bool_bool (x0, ()) = B_slices_Clone_bool_bool x0 := by kernel_rfl

end Go.Proofs.YtjemgnhklipcjaaDoor
namespace Go.Proofs.YtjemgnhklipcjaaDoor
open Go Go.VM
def S_cloneB (x0 : List Bool) : Option ((List Bool × Unit) × Unit × Unit) := bif decide (0 + x0.length ≤ 4294967296) then some ((x0, ()), ((), ())) else none
theorem cloneB_eq {p : List Bool} (h : p.length ≤ 30001) : S_cloneB p = some ((p, ()), (), ()) := by
  unfold S_cloneB
  rw [decide_eq_true (by omega), cond_true]
theorem ok_slices_Clone_bool_bool (x0 : List Bool) (hok : OkA I_slices_Clone_bool_bool.args (x0, ())) (r) (h : S_cloneB x0 = some r) : ∃ n, bodyE ty T_slices_Clone_bool_bool n I_slices_Clone_bool_bool (x0, ()) = some r := ⟨0, by
  refine (B_slices_Clone_bool_bool_eq 0 x0).trans (Eq.trans ?_ h)
  unfold B_slices_Clone_bool_bool S_cloneB
  cases x0 with
  | nil =>
    simp only [List.isEmpty_nil, cond_true]
    unfold unk
    exact if_pos rfl
  | cons a l => rfl⟩
noncomputable def E_slices_Clone_bool_bool : Entry Tryd.prog := Entry.of tok T_slices_Clone_bool_bool I_slices_Clone_bool_bool it_slices_Clone_bool_bool (fun (x0, ()) => S_cloneB x0) (fun (x0, ()) r hok h => ok_slices_Clone_bool_bool x0 hok r h)

end Go.Proofs.YtjemgnhklipcjaaDoor
namespace Go.Proofs.YtjemgnhklipcjaaDoor
open Go Go.VM
/-! ### etchhouse.mount.Balanced$1 -/
noncomputable def I_mount_Balanced_1_io_io_io_io : Inst := ⟨81, Tryd.f81, .two (.reg []) (.two (.two (.reg []) (.one (.loop ⟨[(15, .pv i)], [], [0, 3, 4, 13, 14], [1030, 1040, 13, 1010, 1020]⟩ (.two (.reg []) (.two (.two (.leaf) (.leaf)) (.two (.one (.two (.reg []) (.two (.reg []) (.two (.two (.reg []) (.leaf)) (.leaf))))) (.reg []))))))) (.two (.reg []) (.leaf))), (.cons (.pv i) (.cons (.io .flat i) (.cons (.io .flat i) (.cons (.io (.own (.own .flat)) (.sl (.sl .bool))) (.cons (.io .flat i) .nil))))), (.cons .flat .bool .nil)⟩
theorem it_mount_Balanced_1_io_io_io_io : InTab Tryd.prog I_mount_Balanced_1_io_io_io_io := ⟨Tryd.func81, by kernel_rfl, rfl⟩
noncomputable def T_mount_Balanced_1_io_io_io_io : Nat → Entry Tryd.prog := nth (Entry.no Tryd.f0) []
noncomputable def B_mount_Balanced_1_io_io_io_io (n : Nat) (x0 : Int) (x1 : Int) (x2 : Int) (x3 : List (List Bool)) (x4 : Int) : Option (((Bool × Unit) × (Unit × (Int × (Int × (List (List Bool) × (Int × Unit))))))) :=
  loopN (fun rec1 => fun
  | ((v1aa, ()), ()) =>
    (bif decide ((v1aa < 2)) then
      (bif inB v1aa 2 then
        (bif decide ((x0 ≤ ([x1, wrapI .i64 (x2 - x1)]).getD v1aa.toNat (0 : Int))) then
          (bif inB (wrapI .i64 (x4 + 1)) x3.length then
            (bif inB (wrapI .i64 (([x1, wrapI .i64 (x2 - x1)]).getD v1aa.toNat (0 : Int) - x0)) ((x3.getD ((wrapI .i64 (x4 + 1)).toNat) []).length) then
              (bif (x3.getD ((wrapI .i64 (x4 + 1)).toNat) []).getD ((wrapI .i64 (([x1, wrapI .i64 (x2 - x1)]).getD v1aa.toNat (0 : Int) - x0)).toNat) false then
                some ((true, ()), ((), (x1, (x2, (x3, (x4, ()))))))
              else
                rec1 ((wrapI .i64 (v1aa + 1), ()), ()))
            else
              none)
          else
            none)
        else
          rec1 ((wrapI .i64 (v1aa + 1), ()), ()))
      else
        none)
    else
      some ((false, ()), ((), (x1, (x2, (x3, (x4, ()))))))))
  n ((0, ()), ())
theorem B_mount_Balanced_1_io_io_io_io_eq (n : Nat) (x0 : Int) (x1 : Int) (x2 : Int) (x3 : List (List Bool)) (x4 : Int) : bodyE ty T_mount_Balanced_1_io_io_io_io n I_mount_Balanced_1_io_io_io_io (x0, (x1, (x2, (x3, (x4, ()))))) = B_mount_Balanced_1_io_io_io_io n x0 x1 x2 x3 x4 := by kernel_rfl

end Go.Proofs.YtjemgnhklipcjaaDoor
namespace Go.Proofs.YtjemgnhklipcjaaDoor
open Go Go.VM
def S_chk1 (x0 x : Int) (x3 : List (List Bool)) (x4 : Int) : Option Bool :=
  bif decide (x0 ≤ x) then
    (bif inB (wrapI .i64 (x4 + 1)) x3.length then
      (bif inB (wrapI .i64 (x - x0)) ((x3.getD ((wrapI .i64 (x4 + 1)).toNat) []).length) then
        some ((x3.getD ((wrapI .i64 (x4 + 1)).toNat) []).getD ((wrapI .i64 (x - x0)).toNat) false)
      else none)
    else none)
  else some false
def S_reach (x0 x1 x2 : Int) (x3 : List (List Bool)) (x4 : Int) : Option Bool :=
  (S_chk1 x0 x1 x3 x4).bind fun b => bif b then some true else S_chk1 x0 (wrapI .i64 (x2 - x1)) x3 x4
abbrev T_reachR := (Bool × Unit) × Unit × Int × Int × List (List Bool) × Int × Unit
def S_reachR (x0 x1 x2 : Int) (x3 : List (List Bool)) (x4 : Int) : Option T_reachR := (S_reach x0 x1 x2 x3 x4).map (fun b => ((b, ()), ((), x1, x2, x3, x4, ())))
theorem reach_eq (x0 x1 x2 : Int) (x3 : List (List Bool)) (x4 : Int) : B_mount_Balanced_1_io_io_io_io 3 x0 x1 x2 x3 x4 = (S_reach x0 x1 x2 x3 x4).map (fun b => ((b, ()), ((), x1, x2, x3, x4, ()))) := by
  unfold B_mount_Balanced_1_io_io_io_io S_reach S_chk1
  rw [loopN_succ]
  have w1 : wrapI .i64 (0 + 1) = 1 := rfl
  have w2 : wrapI .i64 (1 + 1) = 2 := rfl
  have e0 : inB (0 : Int) 2 = true := rfl
  have e1 : inB (1 : Int) 2 = true := rfl
  have d0 : decide ((0 : Int) < 2) = true := rfl
  have d1 : decide ((1 : Int) < 2) = true := rfl
  have d2 : decide ((2 : Int) < 2) = false := rfl
  have g0 : ([x1, wrapI .i64 (x2 - x1)] : List Int).getD (0 : Int).toNat 0 = x1 := rfl
  have g1 : ([x1, wrapI .i64 (x2 - x1)] : List Int).getD (1 : Int).toNat 0 = wrapI .i64 (x2 - x1) := rfl
  simp only [w1, e0, d0, g0, cond_true]
  rw [loopN_succ, loopN_succ]
  simp only [w2, e1, d1, d2, g1, cond_true, cond_false]
  generalize wrapI .i64 (x2 - x1) = y
  cases decide (x0 ≤ x1) <;> cases decide (x0 ≤ y) <;> cases inB (wrapI .i64 (x4 + 1)) x3.length <;> cases inB (wrapI .i64 (x1 - x0)) ((x3.getD ((wrapI .i64 (x4 + 1)).toNat) []).length) <;> cases inB (wrapI .i64 (y - x0)) ((x3.getD ((wrapI .i64 (x4 + 1)).toNat) []).length) <;> cases ((x3.getD ((wrapI .i64 (x4 + 1)).toNat) []).getD ((wrapI .i64 (x1 - x0)).toNat) false) <;> cases ((x3.getD ((wrapI .i64 (x4 + 1)).toNat) []).getD ((wrapI .i64 (y - x0)).toNat) false) <;> rfl
theorem ok_mount_Balanced_1_io_io_io_io (x0 x1 x2 : Int) (x3 : List (List Bool)) (x4 : Int) (hok : OkA I_mount_Balanced_1_io_io_io_io.args (x0, x1, x2, x3, x4, ())) (r) (h : S_reachR x0 x1 x2 x3 x4 = some r) : ∃ n, bodyE ty T_mount_Balanced_1_io_io_io_io n I_mount_Balanced_1_io_io_io_io (x0, x1, x2, x3, x4, ()) = some r := ⟨3, (B_mount_Balanced_1_io_io_io_io_eq ..).trans ((reach_eq ..).trans h)⟩
noncomputable def E_mount_Balanced_1_io_io_io_io : Entry Tryd.prog := Entry.of tok T_mount_Balanced_1_io_io_io_io I_mount_Balanced_1_io_io_io_io it_mount_Balanced_1_io_io_io_io (fun (x0, x1, x2, x3, x4, ()) => S_reachR x0 x1 x2 x3 x4) (fun (x0, x1, x2, x3, x4, ()) r hok h => ok_mount_Balanced_1_io_io_io_io x0 x1 x2 x3 x4 hok r h)

end Go.Proofs.YtjemgnhklipcjaaDoor
namespace Go.Proofs.YtjemgnhklipcjaaDoor
open Go Go.VM
/-! ### etchhouse.mount.Balanced -/
noncomputable def I_mount_Balanced : Inst := ⟨46, Tryd.f46, .two (.reg []) (.two (.two (.reg []) (.two (.two (.reg []) (.leaf)) (.leaf))) (.two (.reg []) (.two (.two (.reg []) (.one (.loop ⟨[(22, .pv i)], [(5, ⟨.flat, i, true, false⟩)], [0, 5, 20, 21], []⟩ (.two (.reg []) (.two (.two (.leaf) (.leaf)) (.two (.one (.two (.reg []) (.two (.two (.reg [(1, 0)]) (.two (.two (.reg []) (.leaf)) (.leaf))) (.reg [])))) (.reg []))))))) (.two (.two (.reg []) (.two (.two (.reg []) (.leaf)) (.leaf))) (.two (.reg []) (.two (.draw [] [0, 1, 2, 3, 4, 5, 6, 7] [8, 5]) (.two (.reg []) (.two (.two (.reg []) (.one (.loop ⟨[(9, .pv i)], [(8, ⟨(.own (.own .flat)), (.sl (.sl .bool)), true, false⟩)], [0, 5, 8], [5]⟩ (.two (.two (.reg []) (.two (.leaf) (.leaf))) (.two (.one (.two (.draw [(7, 1)] [0, 1, 2, 3, 4, 5, 6, 7, 8, 9] [8]) (.two (.reg []) (.one (.loop ⟨[(10, .pv i)], [(8, ⟨(.own (.own .flat)), (.sl (.sl .bool)), true, false⟩)], [0, 5, 8, 9], [5]⟩ (.two (.two (.reg []) (.two (.leaf) (.leaf))) (.two (.one (.draw [] [0, 1, 2, 3, 4, 5, 6, 7, 8, 9, 10, 11, 12, 13, 14, 15, 16, 17, 18, 19, 20, 21, 22, 23, 24, 25, 26, 27, 28] [8])) (.reg [])))))))) (.reg [])))))) (.two (.reg []) (.two (.two (.reg []) (.one (.loop ⟨[(12, .pv i)], [(11, ⟨.flat, i, true, false⟩)], [0, 5, 8, 11], [5, 8]⟩ (.two (.two (.reg []) (.two (.leaf) (.leaf))) (.two (.one (.two (.draw [] [0, 1, 2, 3, 4, 5, 6, 7, 8, 9] [8]) (.two (.reg []) (.leaf)))) (.reg [])))))) (.two (.draw [] [1, 2, 3, 0, 4, 5] []) (.two (.two (.reg []) (.one (.loop ⟨[(13, .st (.at (.rf 13 []))), (14, .pv i), (15, .st (.at (.ptr 15 [])))], [(13, ⟨(.own .flat), (.sl i), false, false⟩), (15, ⟨.flat, i, true, false⟩), (5, ⟨.flat, i, true, false⟩), (8, ⟨(.own (.own .flat)), (.sl (.sl .bool)), true, false⟩), (11, ⟨.flat, i, true, false⟩)], [0, 5, 8, 11], []⟩ (.two (.two (.reg []) (.two (.leaf) (.leaf))) (.two (.one (.two (.reg []) (.two (.reg [(7, 2)]) (.two (.draw [] [0, 1, 4, 5, 6, 7, 8, 9, 2, 3, 10, 11] [15, 13]) (.leaf))))) (.two (.two (.reg []) (.reg [])) (.reg []))))))) (.two (.draw [] [0, 1, 2, 3, 4] [13, 11]) (.leaf)))))))))))))), (.cons (.pv (.sl i)) .nil), (.cons (.own .flat) (.sl i) (.cons .flat i (.cons .flat i .nil)))⟩
theorem it_mount_Balanced : InTab Tryd.prog I_mount_Balanced := ⟨Tryd.func46, by kernel_rfl, rfl⟩
noncomputable def T_mount_Balanced : Nat → Entry Tryd.prog := nth (Entry.no Tryd.f0) [E_mount_within, E_slices_Clone_bool_bool, E_mount_Balanced_1_io_io_io_io]
noncomputable def B_mount_Balanced (n : Nat) (x0 : List Int) : Option (((List Int × (Int × (Int × Unit))) × (Unit × Unit))) :=
  (bif decide ((30 < ((x0.length : Nat) : Int))) then
    some (([], (0, (2, ()))), ((), ()))
  else
    loopN (fun rec1 => fun
    | ((v1aa, ()), (v1ba, ())) =>
      (bif decide ((v1aa < ((x0.length : Nat) : Int))) then
        (bif inB v1aa x0.length then
          (bif (!(S_within (x0.getD v1aa.toNat (0 : Int)) 0 1000)) then
            some (([], (0, (1, ()))), ((), ()))
          else
            rec1 ((wrapI .i64 (v1aa + 1), ()), (wrapI .i64 (v1ba + x0.getD v1aa.toNat (0 : Int)), ())))
        else
          none)
      else
        (bif decide ((((x0.length : Nat) : Int) = 0)) then
          some (([], (0, (0, ()))), ((), ()))
        else
          (bif ((decide ((0 ≤ wrapI .i64 (((x0.length : Nat) : Int) + 1))) && decide ((wrapI .i64 (((x0.length : Nat) : Int) + 1) ≤ wrapI .i64 (((x0.length : Nat) : Int) + 1)))) && decide ((wrapI .i64 (((x0.length : Nat) : Int) + 1) ≤ 4294967296))) then
            (bif ((decide ((0 ≤ wrapI .i64 (v1ba + 1))) && decide ((wrapI .i64 (v1ba + 1) ≤ wrapI .i64 (v1ba + 1)))) && decide ((wrapI .i64 (v1ba + 1) ≤ 4294967296))) then
              (bif inB ((x0.length : Nat) : Int) ((List.replicate (α := List Bool) ((wrapI .i64 (((x0.length : Nat) : Int) + 1)).toNat) []).length) then
                (bif inB ((x0.length : Nat) : Int) (((List.replicate (α := List Bool) ((wrapI .i64 (((x0.length : Nat) : Int) + 1)).toNat) []).set (((x0.length : Nat) : Int).toNat) (List.replicate (α := Bool) ((wrapI .i64 (v1ba + 1)).toNat) false)).length) then
                  (bif inB 0 ((((List.replicate (α := List Bool) ((wrapI .i64 (((x0.length : Nat) : Int) + 1)).toNat) []).set (((x0.length : Nat) : Int).toNat) (List.replicate (α := Bool) ((wrapI .i64 (v1ba + 1)).toNat) false)).getD (((x0.length : Nat) : Int).toNat) []).length) then
                    loopN (fun rec2 => fun
                    | ((v2aa, ()), (v2ba, ())) =>
                      (bif decide ((0 ≤ v2aa)) then
                        (bif inB (wrapI .i64 (v2aa + 1)) v2ba.length then
                          ((S_cloneB (v2ba.getD ((wrapI .i64 (v2aa + 1)).toNat) [])).bind fun ((r3aa, ()), ((), ())) =>
                          (bif inB v2aa v2ba.length then
                            (bif inB v2aa x0.length then
                              loopN (fun rec4 => fun
                              | ((v4aa, ()), (v4ba, ())) =>
                                (bif decide ((v4aa ≤ v1ba)) then
                                  (bif inB v2aa v4ba.length then
                                    (bif inB v2aa v4ba.length then
                                      (bif inB v4aa ((v4ba.getD v2aa.toNat []).length) then
                                        (bif (v4ba.getD v2aa.toNat []).getD v4aa.toNat false then
                                          (bif inB v4aa ((v4ba.getD v2aa.toNat []).length) then
                                            rec4 ((wrapI .i64 (v4aa + 1), ()), (v4ba.set v2aa.toNat ((v4ba.getD v2aa.toNat []).set v4aa.toNat true), ()))
                                          else
                                            none)
                                        else
                                          (bif inB (wrapI .i64 (v2aa + 1)) v4ba.length then
                                            (bif inB v2aa x0.length then
                                              (bif inB (wrapI .i64 (v4aa - x0.getD v2aa.toNat (0 : Int))) ((v4ba.getD ((wrapI .i64 (v2aa + 1)).toNat) []).length) then
                                                (bif inB v4aa ((v4ba.getD v2aa.toNat []).length) then
                                                  rec4 ((wrapI .i64 (v4aa + 1), ()), (v4ba.set v2aa.toNat ((v4ba.getD v2aa.toNat []).set v4aa.toNat ((v4ba.getD ((wrapI .i64 (v2aa + 1)).toNat) []).getD ((wrapI .i64 (v4aa - x0.getD v2aa.toNat (0 : Int))).toNat) false)), ()))
                                                else
                                                  none)
                                              else
                                                none)
                                            else
                                              none)
                                          else
                                            none))
                                      else
                                        none)
                                    else
                                      none)
                                  else
                                    none)
                                else
                                  rec2 ((wrapI .i64 (v2aa - 1), ()), (v4ba, ()))))
                              n ((x0.getD v2aa.toNat (0 : Int), ()), (v2ba.set v2aa.toNat r3aa, ()))
                            else
                              none)
                          else
                            none))
                        else
                          none)
                      else
                        (bif inB 0 x0.length then
                          loopN (fun rec5 => fun
                          | ((v5aa, ()), (v5ba, ())) =>
                            (bif decide ((v5aa ≤ v1ba)) then
                              (bif inB 1 v2ba.length then
                                (bif inB 0 x0.length then
                                  (bif inB (wrapI .i64 (v5aa - x0.getD 0 (0 : Int))) ((v2ba.getD 1 []).length) then
                                    (bif (v2ba.getD 1 []).getD ((wrapI .i64 (v5aa - x0.getD 0 (0 : Int))).toNat) false then
                                      rec5 ((wrapI .i64 (v5aa + 1), ()), ((bif decide (((bif decide ((v5aa < wrapI .i64 (v1ba - v5aa))) then wrapI .i64 (v1ba - v5aa) else v5aa) < v5ba)) then (bif decide ((v5aa < wrapI .i64 (v1ba - v5aa))) then wrapI .i64 (v1ba - v5aa) else v5aa) else v5ba), ()))
                                    else
                                      rec5 ((wrapI .i64 (v5aa + 1), ()), (v5ba, ())))
                                  else
                                    none)
                                else
                                  none)
                              else
                                none)
                            else
                              (bif inB 0 x0.length then
                                loopN (fun rec6 => fun
                                | ((v6aa, ()), (v6ba, (v6bba, (v6bbba, (v6bbbba, (v6bbbbba, ())))))) =>
                                  (bif (!(decide (((bif decide ((v6aa < wrapI .i64 (v6bbba - v6aa))) then wrapI .i64 (v6bbba - v6aa) else v6aa) = v6bbbbba)))) then
                                    (bif inB v6bba x0.length then
                                      ((S_reachR (wrapI .i64 (v6aa + x0.getD v6bba.toNat (0 : Int))) v6bbbbba v6bbba v6bbbba v6bba).bind fun ((r7aa, ()), ((), (r7bba, (r7bbba, (r7bbbba, (r7bbbbba, ())))))) =>
                                      (bif r7aa then
                                        (bif inB r7bbbbba x0.length then
                                          (bif decide (((v6ba.length + 1) ≤ 4294967296)) then
                                            rec6 ((wrapI .i64 (v6aa + x0.getD r7bbbbba.toNat (0 : Int)), ()), ((v6ba ++ [r7bbbbba]), (wrapI .i64 (r7bbbbba + 1), (r7bbba, (r7bbbba, (r7bba, ()))))))
                                          else
                                            none)
                                        else
                                          none)
                                      else
                                        rec6 ((v6aa, ()), (v6ba, (wrapI .i64 (r7bbbbba + 1), (r7bbba, (r7bbbba, (r7bba, ()))))))))
                                    else
                                      none)
                                  else
                                    some ((v6ba, (v6bbbbba, (0, ()))), ((), ()))))
                                n ((x0.getD 0 (0 : Int), ()), ([0], (1, (v1ba, (v2ba, (v5ba, ()))))))
                              else
                                none)))
                          n ((x0.getD 0 (0 : Int), ()), (v1ba, ()))
                        else
                          none)))
                    n ((wrapI .i64 (((x0.length : Nat) : Int) - 1), ()), (((List.replicate (α := List Bool) ((wrapI .i64 (((x0.length : Nat) : Int) + 1)).toNat) []).set (((x0.length : Nat) : Int).toNat) (List.replicate (α := Bool) ((wrapI .i64 (v1ba + 1)).toNat) false)).set (((x0.length : Nat) : Int).toNat) ((((List.replicate (α := List Bool) ((wrapI .i64 (((x0.length : Nat) : Int) + 1)).toNat) []).set (((x0.length : Nat) : Int).toNat) (List.replicate (α := Bool) ((wrapI .i64 (v1ba + 1)).toNat) false)).getD (((x0.length : Nat) : Int).toNat) []).set 0 true), ()))
                  else
                    none)
                else
                  none)
              else
                none)
            else
              none)
          else
            none))))
    n ((0, ()), (0, ())))
theorem B_mount_Balanced_eq (n : Nat) (x0 : List Int) : bodyE ty T_mount_Balanced n I_mount_Balanced (x0, ()) = B_mount_Balanced n x0 := by kernel_rfl

end Go.Proofs.YtjemgnhklipcjaaDoor
namespace Go.Proofs.YtjemgnhklipcjaaDoor
open Go Go.VM
noncomputable def K_chooseM (n : Nat) (x0 : List Int) (v1ba : Int) (v2ba : List (List Bool)) (v5ba : Int) : Option ((List Int × (Int × (Int × Unit))) × (Unit × Unit)) :=
  (bif inB 0 x0.length then
                                loopN (fun rec6 => fun
                                | ((v6aa, ()), (v6ba, (v6bba, (v6bbba, (v6bbbba, (v6bbbbba, ())))))) =>
                                  (bif (!(decide (((bif decide ((v6aa < wrapI .i64 (v6bbba - v6aa))) then wrapI .i64 (v6bbba - v6aa) else v6aa) = v6bbbbba)))) then
                                    (bif inB v6bba x0.length then
                                      ((S_reachR (wrapI .i64 (v6aa + x0.getD v6bba.toNat 0)) v6bbbbba v6bbba v6bbbba v6bba).bind fun ((r7aa, ()), ((), (r7bba, (r7bbba, (r7bbbba, (r7bbbbba, ())))))) =>
                                      (bif r7aa then
                                        (bif inB r7bbbbba x0.length then
                                          (bif decide (((v6ba.length + 1) ≤ 4294967296)) then
                                            rec6 ((wrapI .i64 (v6aa + x0.getD r7bbbbba.toNat 0), ()), ((v6ba ++ [r7bbbbba]), (wrapI .i64 (r7bbbbba + 1), (r7bbba, (r7bbbba, (r7bba, ()))))))
                                          else
                                            none)
                                        else
                                          none)
                                      else
                                        rec6 ((v6aa, ()), (v6ba, (wrapI .i64 (r7bbbbba + 1), (r7bbba, (r7bbbba, (r7bba, ()))))))))
                                    else
                                      none)
                                  else
                                    some ((v6ba, (v6bbbbba, (0, ()))), ((), ()))))
                                n ((x0.getD 0 0, ()), ([0], (1, (v1ba, (v2ba, (v5ba, ()))))))
                              else
                                none)
noncomputable def K_bestM (n : Nat) (x0 : List Int) (v1ba : Int) (v2ba : List (List Bool)) : Option ((List Int × (Int × (Int × Unit))) × (Unit × Unit)) :=
  (bif inB 0 x0.length then
                          loopN (fun rec5 => fun
                          | ((v5aa, ()), (v5ba, ())) =>
                            (bif decide ((v5aa ≤ v1ba)) then
                              (bif inB 1 v2ba.length then
                                (bif inB 0 x0.length then
                                  (bif inB (wrapI .i64 (v5aa - x0.getD 0 0)) ((v2ba.getD 1 []).length) then
                                    (bif (v2ba.getD 1 []).getD ((wrapI .i64 (v5aa - x0.getD 0 0)).toNat) false then
                                      rec5 ((wrapI .i64 (v5aa + 1), ()), ((bif decide (((bif decide ((v5aa < wrapI .i64 (v1ba - v5aa))) then wrapI .i64 (v1ba - v5aa) else v5aa) < v5ba)) then (bif decide ((v5aa < wrapI .i64 (v1ba - v5aa))) then wrapI .i64 (v1ba - v5aa) else v5aa) else v5ba), ()))
                                    else
                                      rec5 ((wrapI .i64 (v5aa + 1), ()), (v5ba, ())))
                                  else
                                    none)
                                else
                                  none)
                              else
                                none)
                            else
                              K_chooseM n x0 v1ba v2ba v5ba))
                          n ((x0.getD 0 0, ()), (v1ba, ()))
                        else
                          none)
theorem inB_0 {n : Nat} (h : 0 < n) : inB 0 n = true := inB_nat (i := 0) h
theorem reachN_eq {l : List Int} {N best i s : Nat} (hl : l.length ≤ 30) (hN : N ≤ 30000) (hb : best ≤ N) (hi : i < l.length) (hs : s ≤ 60000) :
    S_reachR (s : Int) (best : Int) (N : Int) (tabL N l) (i : Int) = some ((reachN (rowL N (l.drop (i + 1))) N best s, ()), ((), ((best : Int), ((N : Int), (tabL N l, ((i : Int), ())))))) := by
  have w1 : wrapI .i64 ((i : Int) + 1) = ((i + 1 : Nat) : Int) := (wrap64 (by omega) (by omega)).trans (by omega)
  have w2 : wrapI .i64 ((N : Int) - (best : Int)) = ((N - best : Nat) : Int) := (wrap64 (by omega) (by omega)).trans (by omega)
  have key : ∀ t : Nat, t ≤ N → S_chk1 (s : Int) (t : Int) (tabL N l) (i : Int) = some (decide (s ≤ t) && (rowL N (l.drop (i + 1))).getD (t - s) false) := by
    intro t ht
    unfold S_chk1
    by_cases h : s ≤ t
    · have w3 : wrapI .i64 ((t : Int) - (s : Int)) = ((t - s : Nat) : Int) := (wrap64 (by omega) (by omega)).trans (by omega)
      rw [decide_eq_true (show (s : Int) ≤ (t : Int) by omega), w1, w3, Int.toNat_natCast, tabL_at (by omega), decide_eq_true h]
      rw [inB_nat (show i + 1 < (tabL N l).length by rw [tabL_length]; omega), inB_nat (show t - s < (rowL N (l.drop (i + 1))).length by rw [rowL_length]; omega)]
      rfl
    · rw [decide_eq_false (show ¬ (s : Int) ≤ (t : Int) by omega), decide_eq_false h]
      rfl
  unfold S_reachR S_reach
  rw [w2, key best hb, key (N - best) (by omega)]
  unfold reachN
  cases decide (s ≤ best) && (rowL N (l.drop (i + 1))).getD (best - s) false <;> cases decide (s ≤ N - best) && (rowL N (l.drop (i + 1))).getD (N - best - s) false <;> rfl
theorem done_eq {N best s : Nat} : decide ((bif decide ((s : Int) < ((N - s : Nat) : Int)) then ((N - s : Nat) : Int) else (s : Int)) = (best : Int)) = doneN N best s := by
  unfold doneN
  by_cases h : s < N - s
  · rw [decide_eq_true h, decide_eq_true (show (s : Int) < ((N - s : Nat) : Int) by omega)]
    exact decide_eq_decide.2 (by simp only [cond_true]; omega)
  · rw [decide_eq_false h, decide_eq_false (show ¬ (s : Int) < ((N - s : Nat) : Int) by omega)]
    exact decide_eq_decide.2 (by simp only [cond_false]; omega)
theorem choose_done {N best s : Nat} (h : doneN N best s = true) : ∀ (r : List Int) (i : Nat) (out : List Int), chooseL N best r i s out = out
  | [], _, _ => rfl
  | a :: r, i, out => by rw [chooseL, h, cond_true]
theorem choose_eq {l : List Int} {N best : Nat} {n : Nat} (hl : l.length ≤ 30) (ha : ∀ a, a ∈ l → 0 ≤ a ∧ a ≤ 1000) (hN : N ≤ 30000) (hb : best ≤ N) (hh : N ≤ 2 * best) (h0 : 0 < l.length) (hr : reachN (rowL N (l.drop 1)) N best l[0].toNat = true) (hn : 40 < n) :
    K_chooseM n l (N : Int) (tabL N l) (best : Int) = some ((chooseL N best (l.drop 1) 1 l[0].toNat [0], (best : Int), 0, ()), ((), ())) := by
  unfold K_chooseM
  rw [inB_0 h0, cond_true]
  have hl0 : l.getD 0 0 = ((l[0].toNat : Nat) : Int) := by
    have := ha _ (List.getElem_mem h0)
    rw [getD_at h0]; omega
  rw [hl0]
  refine loop_meas (fun x => ∃ (i s : Nat) (out : List Int), 1 ≤ i ∧ i ≤ l.length ∧ out.length ≤ i ∧ s ≤ N ∧ reachN (rowL N (l.drop i)) N best s = true ∧ chooseL N best (l.drop i) i s out = chooseL N best (l.drop 1) 1 l[0].toNat [0] ∧ x = (((s : Int), ()), (out, ((i : Int), ((N : Int), (tabL N l, ((best : Int), ()))))))) (fun x => l.length - x.2.2.1.toNat) _ ?_ n _ ⟨1, l[0].toNat, [0], Nat.le_refl _, h0, Nat.le_refl _, reach_le hb hr, hr, rfl, rfl⟩ (by show l.length - _ < n; omega)
  rintro _ ⟨i, s, out, i1, i2, o1, s1, hq, hc, rfl⟩
  have wN : wrapI .i64 ((N : Int) - (s : Int)) = ((N - s : Nat) : Int) := (wrap64 (by omega) (by omega)).trans (by omega)
  cases hd : doneN N best s with
  | true =>
    left
    intro rec
    rw [choose_done hd] at hc
    simp only [wN, done_eq, hd, Bool.not_true, cond_false]
    rw [hc]
  | false =>
    right
    have hi : i < l.length := by
      rcases Nat.lt_or_ge i l.length with h | h
      · exact h
      · have e : i = l.length := by omega
        rw [e, List.drop_length] at hq
        rw [reach_nil hb hh hq] at hd
        cases hd
    have hai := ha _ (List.getElem_mem hi)
    have wi : wrapI .i64 ((i : Int) + 1) = ((i + 1 : Nat) : Int) := (wrap64 (by omega) (by omega)).trans (by omega)
    have ws : wrapI .i64 ((s : Int) + l[i]) = ((s + l[i].toNat : Nat) : Int) := (wrap64 (by omega) (by omega)).trans (by omega)
    have hre := reachN_eq (l := l) (N := N) (best := best) (i := i) (s := s + l[i].toNat) hl hN hb hi (by omega)
    rw [List.drop_eq_getElem_cons hi] at hq hc
    rw [chooseL, hd, cond_false] at hc
    have ho : decide (out.length + 1 ≤ 4294967296) = true := decide_eq_true (by omega)
    cases hR : reachN (rowL N (l.drop (i + 1))) N best (s + l[i].toNat) with
    | true =>
      rw [hR, cond_true] at hc
      refine ⟨_, ⟨i + 1, s + l[i].toNat, out ++ [(i : Int)], by omega, hi, by simp; omega, reach_le hb hR, hR, hc, rfl⟩, ?_, fun rec => ?_⟩
      · show l.length - (((i + 1 : Nat) : Int)).toNat < l.length - ((i : Nat) : Int).toNat
        rw [Int.toNat_natCast, Int.toNat_natCast]; omega
      · simp only [wN, done_eq, hd, Bool.not_false, cond_true, inB_nat hi, getD_lt hi, ws, hre, hR, Option.bind_some, ho, wi]
    | false =>
      rw [hR, cond_false] at hc
      refine ⟨_, ⟨i + 1, s, out, by omega, hi, by omega, s1, reach_skip hb hq hR, hc, rfl⟩, ?_, fun rec => ?_⟩
      · show l.length - (((i + 1 : Nat) : Int)).toNat < l.length - ((i : Nat) : Int).toNat
        rw [Int.toNat_natCast, Int.toNat_natCast]; omega
      · simp only [wN, done_eq, hd, Bool.not_false, cond_true, cond_false, inB_nat hi, getD_lt hi, ws, hre, hR, Option.bind_some, ho, wi]
theorem bestK_eq {l : List Int} {N : Nat} {n : Nat} (hN : N ≤ 30000) (ha : ∀ a, a ∈ l → 0 ≤ a ∧ a ≤ (N : Int)) (h0 : 0 < l.length) (hn : N + 40 < n) :
    K_bestM n l (N : Int) (tabL N l) = K_chooseM n l (N : Int) (tabL N l) ((bestTo N l[0].toNat (rowL N (l.drop 1)) (N + 1) : Nat) : Int) := by
  unfold K_bestM
  have ha0 := ha _ (List.getElem_mem h0)
  have hl0 : l.getD 0 0 = ((l[0].toNat : Nat) : Int) := by rw [getD_at h0]; omega
  rw [inB_0 h0, cond_true, hl0]
  generalize hA : l[0].toNat = a
  have haN : a ≤ N := by omega
  have g1 : (tabL N l).getD 1 [] = rowL N (l.drop 1) := tabL_at h0
  have i1 : inB 1 (tabL N l).length = true := inB_nat (i := 1) (by rw [tabL_length]; omega)
  refine loop_meas (fun x => ∃ k : Nat, k + a ≤ N + 1 ∧ x = ((((k + a : Nat) : Int), ()), (((bestTo N a (rowL N (l.drop 1)) k : Nat) : Int), ()))) (fun x => N + 1 - x.1.1.toNat) _ ?_ n _ ⟨0, by omega, by rw [Nat.zero_add]; rfl⟩ (by show N + 1 - _ < n; omega)
  rintro _ ⟨k, hk, rfl⟩
  by_cases h : k + a ≤ N
  · right
    have d1 : decide (((k + a : Nat) : Int) ≤ (N : Int)) = true := decide_eq_true (by omega)
    have w1 : wrapI .i64 (((k + a : Nat) : Int) - (a : Int)) = ((k : Nat) : Int) := (wrap64 (by omega) (by omega)).trans (by omega)
    have w2 : wrapI .i64 (((k + a : Nat) : Int) + 1) = ((k + 1 + a : Nat) : Int) := (wrap64 (by omega) (by omega)).trans (by omega)
    have w3 : wrapI .i64 ((N : Int) - ((k + a : Nat) : Int)) = ((N - (k + a) : Nat) : Int) := (wrap64 (by omega) (by omega)).trans (by omega)
    have i2 : inB (k : Int) (rowL N (l.drop 1)).length = true := inB_nat (by rw [rowL_length]; omega)
    refine ⟨((((k + 1 + a : Nat) : Int), ()), (((bestTo N a (rowL N (l.drop 1)) (k + 1) : Nat) : Int), ())), ⟨k + 1, by omega, rfl⟩, ?_, fun rec => ?_⟩
    · show N + 1 - (((k + 1 + a : Nat) : Int)).toNat < N + 1 - (((k + a : Nat) : Int)).toNat
      rw [Int.toNat_natCast, Int.toNat_natCast]; omega
    · rw [bestTo]
      simp only [d1, i1, g1, w1, w2, w3, i2, cond_true, Int.toNat_natCast, decide_eq_true h, Bool.and_true]
      cases (rowL N (l.drop 1)).getD k false with
      | false => simp only [cond_false]
      | true =>
        simp only [cond_true]
        congr 3
        unfold bestM
        generalize bestTo N a (rowL N (l.drop 1)) k = b
        by_cases c1 : k + a < N - (k + a)
        · rw [decide_eq_true c1, decide_eq_true (show ((k + a : Nat) : Int) < ((N - (k + a) : Nat) : Int) by omega)]
          simp only [cond_true]
          by_cases c2 : N - (k + a) < b
          · rw [decide_eq_true c2, decide_eq_true (show ((N - (k + a) : Nat) : Int) < (b : Int) by omega)]; rfl
          · rw [decide_eq_false c2, decide_eq_false (show ¬ ((N - (k + a) : Nat) : Int) < (b : Int) by omega)]; rfl
        · rw [decide_eq_false c1, decide_eq_false (show ¬ ((k + a : Nat) : Int) < ((N - (k + a) : Nat) : Int) by omega)]
          simp only [cond_false]
          by_cases c2 : k + a < b
          · rw [decide_eq_true c2, decide_eq_true (show ((k + a : Nat) : Int) < (b : Int) by omega)]; rfl
          · rw [decide_eq_false c2, decide_eq_false (show ¬ ((k + a : Nat) : Int) < (b : Int) by omega)]; rfl
  · left
    intro rec
    have d1 : decide (((k + a : Nat) : Int) ≤ (N : Int)) = false := decide_eq_false (by omega)
    simp only [d1, cond_false]
    have : k = N + 1 - a := by omega
    rw [this, bestTo_end]
theorem add_one {a : Int} {i s : Nat} (hw : S_within a 0 1000 = true) (hi : i ≤ 30) (hs : s ≤ i * 1000) : addF a i s ≤ (i + 1) * 1000 ∧ wrapI .i64 ((s : Int) + a) = ((addF a i s : Nat) : Int) := by
  simp only [S_within, Bool.and_eq_true, decide_eq_true_eq] at hw
  unfold addF
  exact ⟨by omega, (wrap64 (by omega) (by omega)).trans (by omega)⟩
theorem ok_mount_Balanced (x0 : List Int) (hok : OkA I_mount_Balanced.args (x0, ())) : ∃ n, bodyE ty T_mount_Balanced n I_mount_Balanced (x0, ()) = some (((S_bal x0).1, (S_bal x0).2.1, (S_bal x0).2.2, ()), ((), ())) := ⟨sumL x0 + 100, by
  rw [B_mount_Balanced_eq]
  unfold B_mount_Balanced S_bal
  by_cases h30 : (30 : Int) < (x0.length : Int)
  · rw [decide_eq_true h30]; rfl
  · rw [decide_eq_false h30]
    simp only [cond_false]
    have h1 : x0.length ≤ 30 := by omega
    have hm : (30 : Nat) ≤ maxLen := by decide
    refine (loop_listI (l := x0) (fun i (s : Nat) => ((i, ()), ((s : Int), ()))) (fun i s => s ≤ i * 1000) (fun a i s => bif S_within a 0 1000 then .inl (addF a i s) else .inr (some ((([] : List Int), (0 : Int), (1 : Int), ()), ((), ())))) _ (fun i hi s hs => ⟨fun s' e => ?_, fun rec => ?_⟩) (fun s _ rec => by simp only [lt_self, cond_false]; exact rfl) (by omega) (s := 0) (Nat.zero_le _)).trans ((goL_guard x0 0 0).trans ?_)
    · cases hw : S_within x0[i] 0 1000 with
      | false => rw [hw] at e; cases e
      | true => rw [hw] at e; cases e; exact (add_one hw (by omega) hs).1
    · simp only [lt_nat hi, inB_nat hi, getD_lt hi, succ64 hi (Nat.le_trans h1 hm), cond_true]
      cases hw : S_within x0[i] 0 1000 with
      | false => rfl
      | true => simp only [Bool.not_true, cond_false, cond_true, (add_one hw (by omega) hs).2]
    · cases hall : x0.all (fun a => S_within a 0 1000) with
      | false => rfl
      | true =>
        simp only [cond_true]
        have hk : okL x0 = true := by unfold okL; rw [hall, decide_eq_true h1]; rfl
        obtain ⟨_, h2⟩ := ok_of hk
        have hN := sum_30000 hk
        have e : foldI addF x0 0 0 = sumL x0 := rfl
        rw [e]
        by_cases h0 : x0.length = 0
        · cases x0 with
          | nil => rfl
          | cons => cases h0
        · have h0 : 0 < x0.length := by omega
          rw [decide_eq_false (show ¬ ((x0.length : Nat) : Int) = 0 by omega)]
          have hs : ∀ a, a ∈ x0 → 0 ≤ a ∧ a ≤ ((sumL x0 : Nat) : Int) := fun a ha => ⟨(h2 a ha).1, by have := sum_in ha; omega⟩
          have hbal : balL x0 = (chooseL (sumL x0) (bestTo (sumL x0) x0[0].toNat (rowL (sumL x0) (x0.drop 1)) (sumL x0 + 1)) (x0.drop 1) 1 x0[0].toNat [0], ((bestTo (sumL x0) x0[0].toNat (rowL (sumL x0) (x0.drop 1)) (sumL x0 + 1) : Nat) : Int), (0 : Int)) := by
            cases x0 with
            | nil => cases h0
            | cons a r => rfl
          have hf : sumL (x0.drop 1) = sumL x0 - x0[0].toNat ∧ x0[0].toNat ≤ sumL x0 := by
            cases x0 with
            | nil => cases h0
            | cons a r => rw [sum_cons]; exact ⟨by simp, by simp⟩
          rw [hbal]
          generalize sumL x0 = N at *
          have w1 : wrapI .i64 (((x0.length : Nat) : Int) + 1) = ((x0.length + 1 : Nat) : Int) := (wrap64 (by omega) (by omega)).trans (by omega)
          have w2 : wrapI .i64 ((N : Int) + 1) = ((N + 1 : Nat) : Int) := (wrap64 (by omega) (by omega)).trans (by omega)
          have d1 : decide (0 ≤ ((x0.length + 1 : Nat) : Int)) = true := decide_eq_true (by omega)
          have d2 : decide (((x0.length + 1 : Nat) : Int) ≤ 4294967296) = true := decide_eq_true (by omega)
          have d3 : decide (0 ≤ ((N + 1 : Nat) : Int)) = true := decide_eq_true (by omega)
          have d4 : decide (((N + 1 : Nat) : Int) ≤ 4294967296) = true := decide_eq_true (by omega)
          have d5 : ∀ k : Int, decide (k ≤ k) = true := fun k => decide_eq_true (Int.le_refl k)
          have i1 : inB ((x0.length : Nat) : Int) (x0.length + 1) = true := inB_nat (by omega)
          have i2 : inB 0 (N + 1) = true := inB_nat (i := 0) (by omega)
          have g : (((List.replicate (α := List Bool) (x0.length + 1) []).set x0.length (List.replicate (α := Bool) (N + 1) false)).getD x0.length []) = List.replicate (N + 1) false := by rw [getD_set (by simp), if_pos rfl]
          have g2 := tab_init x0.length N
          rw [g] at g2
          have hb := bestTo_in N x0[0].toNat (rowL N (x0.drop 1)) hf.2 (by rw [← hf.1]; exact row_full N _ (by omega)) (N + 1)
          simp only [cond_false, w1, w2, d1, d2, d3, d4, d5, Int.toNat_natCast, List.length_replicate, List.length_set, i1, i2, g, Bool.and_self, cond_true]
          refine (tab_loop S_cloneB (fun _ => cloneB_eq) x0 h1 N hN hs _ (by simp) g2 (fun T => K_bestM (N + 100) x0 (N : Int) T) _ (by omega)).trans ?_
          rw [bestK_eq hN hs h0 (by omega), choose_eq h1 h2 hN hb.1 hb.2.1 h0 hb.2.2 (by omega)]⟩
noncomputable def E_mount_Balanced : Entry Tryd.prog := Entry.of tok T_mount_Balanced I_mount_Balanced it_mount_Balanced (fun (x0, ()) => some (((S_bal x0).1, (S_bal x0).2.1, (S_bal x0).2.2, ()), ((), ()))) (fun (x0, ()) r hok h => by cases h; exact ok_mount_Balanced x0 hok)

end Go.Proofs.YtjemgnhklipcjaaDoor
namespace Go.Proofs.YtjemgnhklipcjaaDoor
open Go Go.VM
/-! ### etchhouse.etchhouselaw10.awake -/
noncomputable def I_etchhouselaw10_awake : Inst := ⟨13, Tryd.f13, .two (.reg []) (.two (.reg [(1, 0)]) (.two (.reg []) (.leaf))), .nil, (.cons .flat .bool .nil)⟩
theorem it_etchhouselaw10_awake : InTab Tryd.prog I_etchhouselaw10_awake := ⟨Tryd.func13, by kernel_rfl, rfl⟩
noncomputable def T_etchhouselaw10_awake : Nat → Entry Tryd.prog := nth (Entry.no Tryd.f0) [E_mount_Balanced]
noncomputable def B_etchhouselaw10_awake  : Option (((Bool × Unit) × Unit)) :=
  some ((true, ()), ())
theorem B_etchhouselaw10_awake_eq (n : Nat)  : bodyE ty T_etchhouselaw10_awake n I_etchhouselaw10_awake () = B_etchhouselaw10_awake  := by kernel_rfl

end Go.Proofs.YtjemgnhklipcjaaDoor
namespace Go.Proofs.YtjemgnhklipcjaaDoor
open Go Go.VM
def S_etchhouselaw10_awake  : Bool := true
theorem ok_etchhouselaw10_awake  (hok : OkA I_etchhouselaw10_awake.args ()) : ∃ n, bodyE ty T_etchhouselaw10_awake n I_etchhouselaw10_awake () = some ((S_etchhouselaw10_awake, ()), ()) := ⟨0, by rw [B_etchhouselaw10_awake_eq]; rfl⟩
noncomputable def E_etchhouselaw10_awake : Entry Tryd.prog := Entry.of tok T_etchhouselaw10_awake I_etchhouselaw10_awake it_etchhouselaw10_awake (fun () => some ((S_etchhouselaw10_awake, ()), ())) (fun () r hok h => by cases h; exact ok_etchhouselaw10_awake  hok)

end Go.Proofs.YtjemgnhklipcjaaDoor
namespace Go.Proofs.YtjemgnhklipcjaaDoor
open Go Go.VM
/-! ### etchhouse.etchhouseref10.Left -/
noncomputable def I_etchhouseref10_Left : Inst := ⟨20, Tryd.f20, .two (.reg []) (.two (.reg []) (.two (.two (.reg []) (.one (.loop ⟨[(5, .pv i), (10, .pv i)], [], [1, 8, 9], []⟩ (.two (.reg []) (.two (.two (.leaf) (.leaf)) (.two (.one (.two (.reg []) (.two (.reg []) (.two (.reg []) (.leaf))))) (.reg []))))))) (.two (.reg []) (.leaf)))), (.cons (.pv (.sl (.pair i (.pair .str (.pair i .unit))))) (.cons (.pv .str) .nil)), (.cons .flat i .nil)⟩
theorem it_etchhouseref10_Left : InTab Tryd.prog I_etchhouseref10_Left := ⟨Tryd.func20, by kernel_rfl, rfl⟩
noncomputable def T_etchhouseref10_Left : Nat → Entry Tryd.prog := nth (Entry.no Tryd.f0) []
noncomputable def B_etchhouseref10_Left (n : Nat) (x0 : List (Int × (ByteArray × (Int × Unit)))) (x1 : ByteArray) : Option (((Int × Unit) × (Unit × (Unit × Unit)))) :=
  loopN (fun rec1 => fun
  | ((v1aa, (v1aba, ())), ()) =>
    (bif decide ((v1aba < ((x0.length : Nat) : Int))) then
      (bif inB v1aba x0.length then
        (bif decide ((ByteArray.toList (((x0.getD v1aba.toNat (0, ((strOf []), (0, ())))).2).1) = ByteArray.toList x1)) then
          rec1 ((wrapI .i64 (v1aa + (((x0.getD v1aba.toNat (0, ((strOf []), (0, ())))).2).2).1), (wrapI .i64 (v1aba + 1), ())), ())
        else
          rec1 ((v1aa, (wrapI .i64 (v1aba + 1), ())), ()))
      else
        none)
    else
      some ((v1aa, ()), ((), ((), ())))))
  n ((0, (0, ())), ())
theorem B_etchhouseref10_Left_eq (n : Nat) (x0 : List (Int × (ByteArray × (Int × Unit)))) (x1 : ByteArray) : bodyE ty T_etchhouseref10_Left n I_etchhouseref10_Left (x0, (x1, ())) = B_etchhouseref10_Left n x0 x1 := by kernel_rfl

end Go.Proofs.YtjemgnhklipcjaaDoor
namespace Go.Proofs.YtjemgnhklipcjaaDoor
open Go Go.VM
def leftQ (t : ByteArray) (a : Reel) (_ : Nat) (n : Int) : Int := bif decide (a.2.1 = t) then wrapI .i64 (n + a.2.2.1) else n
def S_left (l : List Reel) (t : ByteArray) : Int := foldI (leftQ t) l 0 0
theorem ok_etchhouseref10_Left (x0 : List Reel) (x1 : ByteArray) (hok : OkA I_etchhouseref10_Left.args (x0, x1, ())) : ∃ n, bodyE ty T_etchhouseref10_Left n I_etchhouseref10_Left (x0, x1, ()) = some ((S_left x0 x1, ()), ((), (), ())) := ⟨x0.length + 1, by
  have hl : x0.length ≤ maxLen := hok.1.1
  rw [B_etchhouseref10_Left_eq]
  unfold B_etchhouseref10_Left S_left
  refine loop_fold (l := x0) (fun i (n : Int) => ((n, (i, ())), ())) (fun _ _ => True) (leftQ x1) (fun n => some ((n, ()), ((), (), ()))) (fun i h s _ => ⟨trivial, fun rec => ?_⟩) (fun s _ rec => by simp only [lt_self, cond_false]) (Nat.lt_succ_self _) (s := (0 : Int)) trivial
  unfold leftQ
  simp only [lt_nat h, inB_nat h, getD_lt h, succ64 h hl, cond_true, str_dec]
  cases decide (x0[i].2.1 = x1) <;> rfl⟩
noncomputable def E_etchhouseref10_Left : Entry Tryd.prog := Entry.of tok T_etchhouseref10_Left I_etchhouseref10_Left it_etchhouseref10_Left (fun (x0, x1, ()) => some ((S_left x0 x1, ()), ((), (), ()))) (fun (x0, x1, ()) r hok h => by cases h; exact ok_etchhouseref10_Left x0 x1 hok)

end Go.Proofs.YtjemgnhklipcjaaDoor
namespace Go.Proofs.YtjemgnhklipcjaaDoor
open Go Go.VM
/-! ### etchhouse.etchhouselaw10.MountPicksTakeWhatThereIs -/
noncomputable def I_etchhouselaw10_MountPicksTakeWhatThereIs : Inst := ⟨5, Tryd.f5, .two (.reg []) (.two (.reg [(5, 0)]) (.two (.two (.reg []) (.two (.two (.reg [(9, 1)]) (.leaf)) (.leaf))) (.two (.two (.reg []) (.two (.two (.reg []) (.leaf)) (.leaf))) (.two (.reg []) (.two (.two (.reg []) (.one (.loop ⟨[(63, .pv i)], [(14, ⟨(.own .flat), (.sl i), false, false⟩)], [1, 2, 12, 14, 61, 62], [12, 11]⟩ (.two (.reg []) (.two (.two (.leaf) (.leaf)) (.two (.one (.two (.reg []) (.two (.two (.draw [] [0, 1, 2, 3, 4, 5, 6, 7, 8, 9, 10, 11, 12, 13, 14, 15, 16, 17, 18, 19, 20] [16]) (.two (.two (.reg []) (.leaf)) (.leaf))) (.two (.two (.reg []) (.one (.loop ⟨[(91, .pv i)], [(14, ⟨(.own .flat), (.sl i), false, false⟩)], [1, 2, 12, 14, 16, 61, 62, 63, 77, 78, 79, 80, 81, 82, 83, 84, 85, 86, 87, 89, 90], [12, 16, 11]⟩ (.two (.reg []) (.two (.two (.leaf) (.leaf)) (.two (.one (.two (.reg []) (.two (.reg []) (.two (.two (.reg []) (.two (.reg []) (.two (.two (.reg []) (.leaf)) (.leaf)))) (.leaf))))) (.reg []))))))) (.two (.reg [(7, 2)]) (.two (.two (.reg []) (.leaf)) (.leaf))))))) (.reg []))))))) (.two (.two (.reg []) (.one (.loop ⟨[(126, .pv i)], [], [12, 14, 124, 125], [12, 14]⟩ (.two (.reg []) (.two (.two (.leaf) (.leaf)) (.two (.one (.two (.reg []) (.two (.draw [] [0, 1, 2, 3, 4, 5, 6, 7, 8, 9, 10, 11, 12, 13, 14, 15, 16, 17, 18, 19, 20, 21, 22, 23, 24, 25, 26, 27, 28, 29, 30, 31, 32, 33, 34, 35, 36, 37, 38, 39, 40] [20, 12, 14]) (.two (.two (.reg []) (.leaf)) (.leaf))))) (.reg []))))))) (.two (.reg [(0, 1)]) (.leaf)))))))), (.cons (.pv (.sl (.pair .str (.pair i (.pair i (.pair i (.pair .str .unit))))))) (.cons (.pv (.sl (.pair .str (.pair .str (.pair (.pair i (.pair i .unit)) (.pair i (.pair .bool .unit))))))) (.cons (.pv (.sl (.pair i (.pair .str (.pair i .unit))))) (.cons (.pv (.sl (.pair .str (.pair .str .unit)))) (.cons (.pv i) .nil))))), (.cons .flat .bool .nil)⟩
theorem it_etchhouselaw10_MountPicksTakeWhatThereIs : InTab Tryd.prog I_etchhouselaw10_MountPicksTakeWhatThereIs := ⟨Tryd.func5, by kernel_rfl, rfl⟩
noncomputable def T_etchhouselaw10_MountPicksTakeWhatThereIs : Nat → Entry Tryd.prog := nth (Entry.no Tryd.f0) [E_mount_Picks, E_etchhouselaw10_awake, E_etchhouseref10_Left]
noncomputable def B_etchhouselaw10_MountPicksTakeWhatThereIs (n : Nat) (x0 : List (ByteArray × (Int × (Int × (Int × (ByteArray × Unit)))))) (x1 : List (ByteArray × (ByteArray × ((Int × (Int × Unit)) × (Int × (Bool × Unit)))))) (x2 : List (Int × (ByteArray × (Int × Unit)))) (x3 : List (ByteArray × (ByteArray × Unit))) (x4 : Int) : Option (((Bool × Unit) × (Unit × (Unit × (Unit × (Unit × (Unit × Unit))))))) :=
  (bif (!(decide ((S_pkE x0 x1 x2 x3 x4 = 0)))) then
    (bif decide ((((((S_pk x0 x1 x2 x3 x4).1).length : Nat) : Int) = 0)) then
      (bif decide ((((((S_pk x0 x1 x2 x3 x4).2).length : Nat) : Int) = 0)) then
        some ((S_etchhouselaw10_awake, ()), ((), ((), ((), ((), ((), ()))))))
      else
        some ((false, ()), ((), ((), ((), ((), ((), ())))))))
    else
      some ((false, ()), ((), ((), ((), ((), ((), ())))))))
  else
    (bif (!(decide ((((((S_pk x0 x1 x2 x3 x4).1).length : Nat) : Int) = wrapI .i64 (((x1.length : Nat) : Int) * x4))))) then
      some ((false, ()), ((), ((), ((), ((), ((), ()))))))
    else
      (bif (!(decide ((((((S_pk x0 x1 x2 x3 x4).2).length : Nat) : Int) = ((x2.length : Nat) : Int))))) then
        some ((false, ()), ((), ((), ((), ((), ((), ()))))))
      else
        (bif ((decide ((0 ≤ ((x2.length : Nat) : Int))) && decide ((((x2.length : Nat) : Int) ≤ ((x2.length : Nat) : Int)))) && decide ((((x2.length : Nat) : Int) ≤ 4294967296))) then
          loopN (fun rec1 => fun
          | ((v1aa, ()), (v1ba, ())) =>
            (bif decide ((v1aa < ((((S_pk x0 x1 x2 x3 x4).1).length : Nat) : Int))) then
              (bif inB v1aa (((S_pk x0 x1 x2 x3 x4).1).length) then
                (bif (!(decide ((((x1.length : Nat) : Int) = 0)))) then
                  (bif (!(decide (((((S_pk x0 x1 x2 x3 x4).1).getD v1aa.toNat (0, ((strOf []), ((strOf []), (0, ()))))).1 = wrapI .i64 (wrapI .i64 (Int.tdiv v1aa ((x1.length : Nat) : Int)) + 1))))) then
                    some ((false, ()), ((), ((), ((), ((), ((), ()))))))
                  else
                    (bif (!(decide ((((x1.length : Nat) : Int) = 0)))) then
                      (bif inB (Int.tmod v1aa ((x1.length : Nat) : Int)) x1.length then
                        (bif (!(decide ((ByteArray.toList (((((S_pk x0 x1 x2 x3 x4).1).getD v1aa.toNat (0, ((strOf []), ((strOf []), (0, ()))))).2).1) = ByteArray.toList ((x1.getD ((Int.tmod v1aa ((x1.length : Nat) : Int)).toNat) ((strOf []), ((strOf []), ((0, (0, ())), (0, (false, ())))))).1))))) then
                          some ((false, ()), ((), ((), ((), ((), ((), ()))))))
                        else
                          loopN (fun rec2 => fun
                          | ((v2aa, ()), (v2ba, ())) =>
                            (bif decide ((v2aa < ((x2.length : Nat) : Int))) then
                              (bif inB v2aa x2.length then
                                (bif decide (((x2.getD v2aa.toNat (0, ((strOf []), (0, ())))).1 = ((((((S_pk x0 x1 x2 x3 x4).1).getD v1aa.toNat (0, ((strOf []), ((strOf []), (0, ()))))).2).2).2).1)) then
                                  (bif inB v2aa v2ba.length then
                                    (bif inB v2aa v2ba.length then
                                      (bif (!(decide ((ByteArray.toList (((x2.getD v2aa.toNat (0, ((strOf []), (0, ())))).2).1) = ByteArray.toList ((((((S_pk x0 x1 x2 x3 x4).1).getD v1aa.toNat (0, ((strOf []), ((strOf []), (0, ()))))).2).2).1))))) then
                                        some ((false, ()), ((), ((), ((), ((), ((), ()))))))
                                      else
                                        rec2 ((wrapI .i64 (v2aa + 1), ()), (v2ba.set v2aa.toNat (wrapI .i64 (v2ba.getD v2aa.toNat (0 : Int) + 1)), ())))
                                    else
                                      none)
                                  else
                                    none)
                                else
                                  rec2 ((wrapI .i64 (v2aa + 1), ()), (v2ba, ())))
                              else
                                none)
                            else
                              (bif decide ((((((((S_pk x0 x1 x2 x3 x4).1).getD v1aa.toNat (0, ((strOf []), ((strOf []), (0, ()))))).2).2).2).1 = 0)) then
                                (bif decide ((0 < S_left ((S_pk x0 x1 x2 x3 x4).2) ((((((S_pk x0 x1 x2 x3 x4).1).getD v1aa.toNat (0, ((strOf []), ((strOf []), (0, ()))))).2).2).1))) then
                                  some ((false, ()), ((), ((), ((), ((), ((), ()))))))
                                else
                                  rec1 ((wrapI .i64 (v1aa + 1), ()), (v2ba, ())))
                              else
                                rec1 ((wrapI .i64 (v1aa + 1), ()), (v2ba, ())))))
                          n ((0, ()), (v1ba, ())))
                      else
                        none)
                    else
                      none))
                else
                  none)
              else
                none)
            else
              loopN (fun rec3 => fun
              | ((v3aa, ()), ()) =>
                (bif decide ((v3aa < ((x2.length : Nat) : Int))) then
                  (bif inB v3aa x2.length then
                    (bif inB v3aa (((S_pk x0 x1 x2 x3 x4).2).length) then
                      (bif decide (((((((S_pk x0 x1 x2 x3 x4).2).getD v3aa.toNat (0, ((strOf []), (0, ())))).2).2).1 < 0)) then
                        some ((false, ()), ((), ((), ((), ((), ((), ()))))))
                      else
                        (bif inB v3aa (((S_pk x0 x1 x2 x3 x4).2).length) then
                          (bif inB v3aa v1ba.length then
                            (bif (!(decide ((wrapI .i64 ((((((S_pk x0 x1 x2 x3 x4).2).getD v3aa.toNat (0, ((strOf []), (0, ())))).2).2).1 + v1ba.getD v3aa.toNat (0 : Int)) = (((x2.getD v3aa.toNat (0, ((strOf []), (0, ())))).2).2).1)))) then
                              some ((false, ()), ((), ((), ((), ((), ((), ()))))))
                            else
                              (bif inB v3aa (((S_pk x0 x1 x2 x3 x4).2).length) then
                                (bif (!(decide (((((S_pk x0 x1 x2 x3 x4).2).getD v3aa.toNat (0, ((strOf []), (0, ())))).1 = (x2.getD v3aa.toNat (0, ((strOf []), (0, ())))).1)))) then
                                  some ((false, ()), ((), ((), ((), ((), ((), ()))))))
                                else
                                  (bif inB v3aa (((S_pk x0 x1 x2 x3 x4).2).length) then
                                    (bif (!(decide ((ByteArray.toList (((((S_pk x0 x1 x2 x3 x4).2).getD v3aa.toNat (0, ((strOf []), (0, ())))).2).1) = ByteArray.toList (((x2.getD v3aa.toNat (0, ((strOf []), (0, ())))).2).1))))) then
                                      some ((false, ()), ((), ((), ((), ((), ((), ()))))))
                                    else
                                      rec3 ((wrapI .i64 (v3aa + 1), ()), ()))
                                  else
                                    none))
                              else
                                none))
                          else
                            none)
                        else
                          none))
                    else
                      none)
                  else
                    none)
                else
                  some ((S_etchhouselaw10_awake, ()), ((), ((), ((), ((), ((), ()))))))))
              n ((0, ()), ())))
          n ((0, ()), (List.replicate (α := Int) (((x2.length : Nat) : Int).toNat) 0, ()))
        else
          none))))
theorem B_etchhouselaw10_MountPicksTakeWhatThereIs_eq (n : Nat) (x0 : List (ByteArray × (Int × (Int × (Int × (ByteArray × Unit)))))) (x1 : List (ByteArray × (ByteArray × ((Int × (Int × Unit)) × (Int × (Bool × Unit)))))) (x2 : List (Int × (ByteArray × (Int × Unit)))) (x3 : List (ByteArray × (ByteArray × Unit))) (x4 : Int) : bodyE ty T_etchhouselaw10_MountPicksTakeWhatThereIs n I_etchhouselaw10_MountPicksTakeWhatThereIs (x0, (x1, (x2, (x3, (x4, ()))))) = B_etchhouselaw10_MountPicksTakeWhatThereIs n x0 x1 x2 x3 x4 := by kernel_rfl

end Go.Proofs.YtjemgnhklipcjaaDoor
namespace Go.Proofs.YtjemgnhklipcjaaDoor
open Go Go.VM
theorem ok_etchhouselaw10_MountPicksTakeWhatThereIs (x0 : List Bod) (x1 : List Pla) (x2 : List Reel) (x3 : List Ins) (x4 : Int) (hok : OkA I_etchhouselaw10_MountPicksTakeWhatThereIs.args (x0, x1, x2, x3, x4, ())) : ∃ n, bodyE ty T_etchhouselaw10_MountPicksTakeWhatThereIs n I_etchhouselaw10_MountPicksTakeWhatThereIs (x0, x1, x2, x3, x4, ()) = some ((true, ()), ((), (), (), (), (), ())) := ⟨x2.length + 20001, by
  have hl2 : x2.length ≤ maxLen := hok.2.2.1.1
  rw [B_etchhouselaw10_MountPicksTakeWhatThereIs_eq]
  unfold B_etchhouselaw10_MountPicksTakeWhatThereIs
  cases hz : decide (S_pkE x0 x1 x2 x3 x4 = 0) with
  | false =>
    have e : S_pk x0 x1 x2 x3 x4 = ([], []) := by unfold S_pk; rw [hz]; rfl
    rw [e]; rfl
  | true =>
    obtain ⟨h1, h2, h3, h4, h5, h6, N, hNe, hN, hm⟩ := pk_at (of_decide_eq_true hz)
    have hr := reels_len h2
    obtain ⟨ra, rb⟩ := reels_at h2
    have ep : S_pk x0 x1 x2 x3 x4 = S_picksL x1 x2 x3 N := by unfold S_pk; rw [hz, hNe]; rfl
    obtain ⟨T, hx⟩ := picks_taken (l := x1) (s := x3) h2 N
    rw [ep]
    generalize (S_picksL x1 x2 x3 N).1 = x at *
    generalize (S_picksL x1 x2 x3 N).2 = o at *
    have hol := T.len
    have w1 : wrapI .i64 (((x1.length : Nat) : Int) * x4) = ((x.length : Nat) : Int) := by
      rw [hNe, ← Int.natCast_mul, wrap64 (by rw [Nat.mul_comm] at hm; omega) (by rw [Nat.mul_comm] at hm; omega), hx, Nat.mul_comm]
    have hx2 : x.length ≤ 20000 := by omega
    have hxl : x.length ≤ maxLen := Nat.le_trans hx2 (by decide)
    simp only [w1, hol, decide_true, Bool.not_true, cond_false, Int.toNat_natCast, decide_eq_true (show (0 : Int) ≤ ((x2.length : Nat) : Int) by omega), decide_eq_true (show ((x2.length : Nat) : Int) ≤ ((x2.length : Nat) : Int) by omega), decide_eq_true (show ((x2.length : Nat) : Int) ≤ 4294967296 by omega), Bool.and_self, cond_true]
    have hcnt : ∀ (y : List Pick) (q : Int), y.length ≤ 20000 → cntS q y ≤ 1000000 := fun y q hy => by
      have : cntS q y ≤ y.length := List.countP_le_length
      omega
    refine loop_fold (l := x) (fun i (g : List Int) => ((i, ()), (g, ()))) (fun i g => GaveI x2 (fun q => cntS q (x.take i)) g) (fun p _ g => foldI (giveF p.2.2.2.1) x2 0 g) (fun _ => some ((true, ()), ((), (), (), (), (), ()))) (fun i h g hI => ⟨?_, fun rec => ?_⟩) (fun g hI rec => ?_) (by omega) (s := List.replicate x2.length 0) ?_
    · have := give_all (fun q => hcnt (x.take i) q (by rw [List.length_take]; omega)) (q := x[i].2.2.2.1) hI
      refine ⟨this.1, fun m hm => ?_⟩
      rw [this.2 m hm]
      show ((cntS x2[m].1 (x.take i) + (if x2[m].1 = x[i].2.2.2.1 then 1 else 0) : Nat) : Int) = ((cntS x2[m].1 (x.take (i + 1)) : Nat) : Int)
      rw [List.take_succ_eq_append_getElem h]
      unfold cntS
      rw [List.countP_append, List.countP_cons, List.countP_nil]
      by_cases c : x2[m].1 = x[i].2.2.2.1
      · rw [if_pos c, decide_eq_true c]; rfl
      · rw [if_neg c, decide_eq_false c]; rfl
    · have hL : 0 < x1.length := by
        rcases Nat.eq_zero_or_pos x1.length with c | c
        · rw [c, Nat.mul_zero] at hx; omega
        · exact c
      obtain ⟨a1, a2⟩ := T.at_ i h
      have e0 : decide (((x1.length : Nat) : Int) = 0) = false := decide_eq_false (by omega)
      have hdv : Int.tdiv (i : Int) ((x1.length : Nat) : Int) = ((i / x1.length : Nat) : Int) := by
        rw [Int.tdiv_eq_ediv_of_nonneg (by omega)]; rfl
      have hmd : Int.tmod (i : Int) ((x1.length : Nat) : Int) = ((i % x1.length : Nat) : Int) := by
        rw [Int.tmod_eq_emod_of_nonneg (by omega)]; rfl
      have hdl : i / x1.length ≤ i := Nat.div_le_self _ _
      have hml : i % x1.length < x1.length := Nat.mod_lt _ hL
      have w2' : ∀ d : Nat, d ≤ 20000 → wrapI .i64 (wrapI .i64 (d : Int) + 1) = (d : Int) + 1 := fun d hd => by
        rw [wrap64 (n := (d : Int)) (by omega) (by omega), wrap64 (by omega) (by omega)]
      have w2 := w2' (i / x1.length) (Nat.le_trans hdl (by omega))
      rw [getD_at hml] at a2
      simp only [lt_nat h, inB_nat h, getD_lt h, succ64 h hxl, cond_true, e0, Bool.not_false, hdv, hmd, w2, a1, decide_true, Bool.not_true, cond_false, inB_nat hml, getD_lt hml, str_dec, a2]
      refine (loop_fold (l := x2) (fun k (g : List Int) => ((k, ()), (g, ()))) (fun _ g => g.length = x2.length) (giveF x[i].2.2.2.1) (fun g => rec ((((i + 1 : Nat) : Int), ()), (g, ()))) (fun k hk g' hJ => ⟨?_, fun rec2 => ?_⟩) (fun g' hJ rec2 => ?_) (by omega) (s := g) hI.1)
      · unfold giveF
        cases decide (x2[k].1 = x[i].2.2.2.1) with
        | true => rw [cond_true, List.length_set]; exact hJ
        | false => exact hJ
      · have hkg : k < g'.length := by omega
        unfold giveF
        simp only [lt_nat hk, inB_nat hk, getD_lt hk, getD_at hk, succ64 hk hl2, cond_true, inB_nat hkg, Int.toNat_natCast]
        by_cases c : x2[k].1 = x[i].2.2.2.1
        · have ht := T.typ _ (List.getElem_mem h) k hk c
          rw [decide_eq_true c]
          simp only [ht, cond_true, decide_true, Bool.not_true, cond_false]
        · rw [decide_eq_false c]
          simp only [cond_false]
      · simp only [lt_self, cond_false]
        by_cases c : x[i].2.2.2.1 = 0
        · have hz0 : S_left o x[i].2.2.1 = 0 := left_none o 0 (fun a ha he => by
            obtain ⟨k, hk, rfl⟩ := List.mem_iff_getElem.1 ha
            have h1 := T.non _ (List.getElem_mem h) c k hk he
            have h2 := (T.same k (by omega) hk).2.2.1
            omega)
          rw [decide_eq_true c, hz0]
          rfl
        · rw [decide_eq_false c]; rfl
    · simp only [lt_self, cond_false]
      refine loop_fold (l := x2) (fun k (_ : Unit) => ((k, ()), ())) (fun _ _ => True) (fun _ _ s => s) (fun _ => some ((true, ()), ((), (), (), (), (), ()))) (fun k hk s _ => ⟨trivial, fun rec2 => ?_⟩) (fun s _ rec2 => by simp only [lt_self, cond_false]; rfl) (by omega) (s := ()) trivial
      have hko : k < o.length := by omega
      have hkg : k < g.length := by have := hI.1; omega
      have hgv := hI.2 k hk
      rw [List.take_length] at hgv
      obtain ⟨b1, b2, b3, b4⟩ := T.same k hk hko
      obtain ⟨c1, c2, c3⟩ := ra k hk
      have hsum : o[k].2.2.1 + ((cntS x2[k].1 x : Nat) : Int) = x2[k].2.2.1 := b4
      have w3 : wrapI .i64 (o[k].2.2.1 + ((cntS x2[k].1 x : Nat) : Int)) = x2[k].2.2.1 := by rw [hsum, wrap64 (by omega) (by omega)]
      have hn : decide (o[k].2.2.1 < 0) = false := decide_eq_false (by omega)
      simp only [lt_nat hk, inB_nat hk, getD_lt hk, getD_at hk, getD_at hko, succ64 hk hl2, cond_true, inB_nat hkg, inB_nat hko, getD_lt hko, Int.toNat_natCast, hgv, hn, w3, b1, b2, str_dec, decide_true, Bool.not_true, cond_false]
    · exact ⟨List.length_replicate, fun m hm => by rw [getD_at (by rw [List.length_replicate]; exact hm), List.getElem_replicate]; rfl⟩⟩
noncomputable def E_etchhouselaw10_MountPicksTakeWhatThereIs : Entry Tryd.prog := Entry.of tok T_etchhouselaw10_MountPicksTakeWhatThereIs I_etchhouselaw10_MountPicksTakeWhatThereIs it_etchhouselaw10_MountPicksTakeWhatThereIs (fun (x0, x1, x2, x3, x4, ()) => some ((true, ()), ((), (), (), (), (), ()))) (fun (x0, x1, x2, x3, x4, ()) r hok h => by cases h; exact ok_etchhouselaw10_MountPicksTakeWhatThereIs x0 x1 x2 x3 x4 hok)

end Go.Proofs.YtjemgnhklipcjaaDoor
namespace Go.Proofs.YtjemgnhklipcjaaDoor
open Go Go.VM
namespace LMountPicksTakeWhatThereIs
theorem law (x0 : List Bod) (x1 : List Pla) (x2 : List Reel) (x3 : List Ins) (x4 : Int) {M : Nat} (hM : M ≤ 1048576) (_hf : FineAll [.sl (.pair .str (.pair i (.pair i (.pair i (.pair .str .unit))))), .sl (.pair .str (.pair .str (.pair (.pair i (.pair i .unit)) (.pair i (.pair .bool .unit))))), .sl (.pair i (.pair .str (.pair i .unit))), .sl (.pair .str (.pair .str .unit)), i] (x0, x1, x2, x3, x4, ())) (hs : SmlAll M [.sl (.pair .str (.pair i (.pair i (.pair i (.pair .str .unit))))), .sl (.pair .str (.pair .str (.pair (.pair i (.pair i .unit)) (.pair i (.pair .bool .unit))))), .sl (.pair i (.pair .str (.pair i .unit))), .sl (.pair .str (.pair .str .unit)), i] (x0, x1, x2, x3, x4, ())) :
    some ((true, ()), ((), ((), ((), ((), ((), ())))))) = some ((true, ()), ((), ((), ((), ((), ((), ())))))) := rfl

end LMountPicksTakeWhatThereIs
end Go.Proofs.YtjemgnhklipcjaaDoor
