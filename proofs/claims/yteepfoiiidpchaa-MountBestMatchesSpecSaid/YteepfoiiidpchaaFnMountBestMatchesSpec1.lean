/- What the functions that MountBestMatchesSpec reaches compute, part 1; and that the law answers true, for all arguments that a row reads. -/
import Derived.Test.YteepfoiiidpchaaProg
import Derived.Test.YteepfoiiidpchaaVmMountBestMatchesSpec5
namespace Go.Proofs.Yteepfoiiidpchaa
open Go Go.VM
abbrev i : Ty := .int .i64
def tab : List (Nat × Ty) := [(32, (.sl (.pair .str (.pair i (.pair i .unit))))), (54, (.pair .str (.pair i (.pair i .unit)))), (9, .str), (3, i), (22, (.sl i)), (4, .bool), (23, i), (56, (.mp .str .bool)), (5, (.int .u8)), (29, (.sl .bool)), (52, (.pair (.sl (.pair .str (.pair i (.pair i .unit)))) (.pair (.sl i) (.pair (.sl i) (.pair i .unit))))), (39, (.sl (.sl .bool)))]
def ty : Types := mkTypes tab []
theorem tok : TyOK Try.prog ty := tyok_of_check (by kernel_rfl)
end Go.Proofs.Yteepfoiiidpchaa
namespace Go.Proofs.Yteepfoiiidpchaa
open Go Go.VM
noncomputable def I_bytealg_IndexByteString : Inst := ⟨43, Try.f43, .leaf, pvs [.str, .int .u8], .cons .flat (.int .i64) .nil⟩
noncomputable def E_bytealg_IndexByteString : Entry Try.prog := Entry.ext I_bytealg_IndexByteString idxF (ext_idx Try.func43 (by kernel_rfl) rfl (by kernel_rfl) (by kernel_rfl))

end Go.Proofs.Yteepfoiiidpchaa
namespace Go.Proofs.Yteepfoiiidpchaa
open Go Go.VM
/-! ### internal.stringslite.IndexByte -/
noncomputable def I_stringslite_IndexByte : Inst := ⟨41, Try.f41, .two (.reg []) (.two (.reg [(2, 0)]) (.leaf)), (.cons (.pv .str) (.cons (.pv (.int .u8)) .nil)), (.cons .flat i .nil)⟩
theorem it_stringslite_IndexByte : InTab Try.prog I_stringslite_IndexByte := ⟨Try.func41, by kernel_rfl, rfl⟩
noncomputable def T_stringslite_IndexByte : Nat → Entry Try.prog := nth (Entry.no Try.f0) [E_bytealg_IndexByteString]
noncomputable def B_stringslite_IndexByte (x0 : ByteArray) (x1 : Int) : Option (((Int × Unit) × (Unit × (Unit × Unit)))) :=
  some ((S_idx x0 x1, ()), ((), ((), ())))
theorem B_stringslite_IndexByte_eq (n : Nat) (x0 : ByteArray) (x1 : Int) : bodyE ty T_stringslite_IndexByte n I_stringslite_IndexByte (x0, (x1, ())) = B_stringslite_IndexByte x0 x1 := by kernel_rfl

end Go.Proofs.Yteepfoiiidpchaa
namespace Go.Proofs.Yteepfoiiidpchaa
open Go Go.VM
def S_stringslite_IndexByte (x0 : ByteArray) (x1 : Int) : Int := S_idx x0 x1
theorem ok_stringslite_IndexByte (x0 : ByteArray) (x1 : Int) (hok : OkA I_stringslite_IndexByte.args (x0, x1, ())) : ∃ n, bodyE ty T_stringslite_IndexByte n I_stringslite_IndexByte (x0, x1, ()) = some (((S_stringslite_IndexByte x0 x1), ()), ((), (), ())) := ⟨0, by rw [B_stringslite_IndexByte_eq]; rfl⟩
noncomputable def E_stringslite_IndexByte : Entry Try.prog := Entry.of tok T_stringslite_IndexByte I_stringslite_IndexByte it_stringslite_IndexByte (fun (x0, x1, ()) => some (((S_stringslite_IndexByte x0 x1), ()), ((), (), ()))) (fun (x0, x1, ()) r hok h => by cases h; exact ok_stringslite_IndexByte x0 x1 hok)

end Go.Proofs.Yteepfoiiidpchaa
namespace Go.Proofs.Yteepfoiiidpchaa
open Go Go.VM
/-! ### strings.IndexByte -/
noncomputable def I_strings_IndexByte : Inst := ⟨39, Try.f39, .two (.reg []) (.two (.reg [(2, 0)]) (.leaf)), (.cons (.pv .str) (.cons (.pv (.int .u8)) .nil)), (.cons .flat i .nil)⟩
theorem it_strings_IndexByte : InTab Try.prog I_strings_IndexByte := ⟨Try.func39, by kernel_rfl, rfl⟩
noncomputable def T_strings_IndexByte : Nat → Entry Try.prog := nth (Entry.no Try.f0) [E_stringslite_IndexByte]
noncomputable def B_strings_IndexByte (x0 : ByteArray) (x1 : Int) : Option (((Int × Unit) × (Unit × (Unit × Unit)))) :=
  some ((S_stringslite_IndexByte x0 x1, ()), ((), ((), ())))
theorem B_strings_IndexByte_eq (n : Nat) (x0 : ByteArray) (x1 : Int) : bodyE ty T_strings_IndexByte n I_strings_IndexByte (x0, (x1, ())) = B_strings_IndexByte x0 x1 := by kernel_rfl

end Go.Proofs.Yteepfoiiidpchaa
namespace Go.Proofs.Yteepfoiiidpchaa
open Go Go.VM
def S_strings_IndexByte (x0 : ByteArray) (x1 : Int) : Int := S_stringslite_IndexByte x0 x1
theorem ok_strings_IndexByte (x0 : ByteArray) (x1 : Int) (hok : OkA I_strings_IndexByte.args (x0, x1, ())) : ∃ n, bodyE ty T_strings_IndexByte n I_strings_IndexByte (x0, x1, ()) = some (((S_strings_IndexByte x0 x1), ()), ((), (), ())) := ⟨0, by rw [B_strings_IndexByte_eq]; rfl⟩
noncomputable def E_strings_IndexByte : Entry Try.prog := Entry.of tok T_strings_IndexByte I_strings_IndexByte it_strings_IndexByte (fun (x0, x1, ()) => some (((S_strings_IndexByte x0 x1), ()), ((), (), ()))) (fun (x0, x1, ()) r hok h => by cases h; exact ok_strings_IndexByte x0 x1 hok)

end Go.Proofs.Yteepfoiiidpchaa
namespace Go.Proofs.Yteepfoiiidpchaa
open Go Go.VM
/-! ### etchhouse.netlist.IsWord -/
noncomputable def I_netlist_IsWord : Inst := ⟨35, Try.f35, .two (.reg []) (.two (.two (.reg []) (.one (.loop ⟨[(7, .pv i)], [], [0, 6], []⟩ (.two (.reg []) (.two (.two (.leaf) (.leaf)) (.two (.one (.two (.reg []) (.two (.reg []) (.two (.reg [(24, 0)]) (.two (.two (.reg []) (.leaf)) (.leaf)))))) (.reg []))))))) (.two (.reg []) (.leaf))), (.cons (.pv .str) .nil), (.cons .flat .bool .nil)⟩
theorem it_netlist_IsWord : InTab Try.prog I_netlist_IsWord := ⟨Try.func35, by kernel_rfl, rfl⟩
noncomputable def T_netlist_IsWord : Nat → Entry Try.prog := nth (Entry.no Try.f0) [E_strings_IndexByte]
noncomputable def B_netlist_IsWord (n : Nat) (x0 : ByteArray) : Option (((Bool × Unit) × (Unit × Unit))) :=
  loopN (fun rec1 => fun
  | ((v1aa, ()), ()) =>
    (bif decide ((v1aa < ((ByteArray.size x0 : Nat) : Int))) then
      (bif inB v1aa (ByteArray.size x0) then
        (bif decide ((strAt x0 v1aa.toNat < 65)) then
          (bif decide ((strAt x0 v1aa.toNat < 97)) then
            (bif decide ((strAt x0 v1aa.toNat < 48)) then
              (bif decide ((S_strings_IndexByte (strOf [95, 43, 45, 35]) (strAt x0 v1aa.toNat) < 0)) then
                some ((false, ()), ((), ()))
              else
                rec1 ((wrapI .i64 (v1aa + 1), ()), ()))
            else
              (bif decide ((57 < strAt x0 v1aa.toNat)) then
                (bif decide ((S_strings_IndexByte (strOf [95, 43, 45, 35]) (strAt x0 v1aa.toNat) < 0)) then
                  some ((false, ()), ((), ()))
                else
                  rec1 ((wrapI .i64 (v1aa + 1), ()), ()))
              else
                rec1 ((wrapI .i64 (v1aa + 1), ()), ())))
          else
            (bif decide ((122 < strAt x0 v1aa.toNat)) then
              (bif decide ((strAt x0 v1aa.toNat < 48)) then
                (bif decide ((S_strings_IndexByte (strOf [95, 43, 45, 35]) (strAt x0 v1aa.toNat) < 0)) then
                  some ((false, ()), ((), ()))
                else
                  rec1 ((wrapI .i64 (v1aa + 1), ()), ()))
              else
                (bif decide ((57 < strAt x0 v1aa.toNat)) then
                  (bif decide ((S_strings_IndexByte (strOf [95, 43, 45, 35]) (strAt x0 v1aa.toNat) < 0)) then
                    some ((false, ()), ((), ()))
                  else
                    rec1 ((wrapI .i64 (v1aa + 1), ()), ()))
                else
                  rec1 ((wrapI .i64 (v1aa + 1), ()), ())))
            else
              rec1 ((wrapI .i64 (v1aa + 1), ()), ())))
        else
          (bif decide ((90 < strAt x0 v1aa.toNat)) then
            (bif decide ((strAt x0 v1aa.toNat < 97)) then
              (bif decide ((strAt x0 v1aa.toNat < 48)) then
                (bif decide ((S_strings_IndexByte (strOf [95, 43, 45, 35]) (strAt x0 v1aa.toNat) < 0)) then
                  some ((false, ()), ((), ()))
                else
                  rec1 ((wrapI .i64 (v1aa + 1), ()), ()))
              else
                (bif decide ((57 < strAt x0 v1aa.toNat)) then
                  (bif decide ((S_strings_IndexByte (strOf [95, 43, 45, 35]) (strAt x0 v1aa.toNat) < 0)) then
                    some ((false, ()), ((), ()))
                  else
                    rec1 ((wrapI .i64 (v1aa + 1), ()), ()))
                else
                  rec1 ((wrapI .i64 (v1aa + 1), ()), ())))
            else
              (bif decide ((122 < strAt x0 v1aa.toNat)) then
                (bif decide ((strAt x0 v1aa.toNat < 48)) then
                  (bif decide ((S_strings_IndexByte (strOf [95, 43, 45, 35]) (strAt x0 v1aa.toNat) < 0)) then
                    some ((false, ()), ((), ()))
                  else
                    rec1 ((wrapI .i64 (v1aa + 1), ()), ()))
                else
                  (bif decide ((57 < strAt x0 v1aa.toNat)) then
                    (bif decide ((S_strings_IndexByte (strOf [95, 43, 45, 35]) (strAt x0 v1aa.toNat) < 0)) then
                      some ((false, ()), ((), ()))
                    else
                      rec1 ((wrapI .i64 (v1aa + 1), ()), ()))
                  else
                    rec1 ((wrapI .i64 (v1aa + 1), ()), ())))
              else
                rec1 ((wrapI .i64 (v1aa + 1), ()), ())))
          else
            rec1 ((wrapI .i64 (v1aa + 1), ()), ())))
      else
        none)
    else
      (bif decide ((1 ≤ ((ByteArray.size x0 : Nat) : Int))) then
        some ((decide ((((ByteArray.size x0 : Nat) : Int) ≤ 40)), ()), ((), ()))
      else
        some ((false, ()), ((), ())))))
  n ((0, ()), ())
theorem B_netlist_IsWord_eq (n : Nat) (x0 : ByteArray) : bodyE ty T_netlist_IsWord n I_netlist_IsWord (x0, ()) = B_netlist_IsWord n x0 := by kernel_rfl

end Go.Proofs.Yteepfoiiidpchaa
namespace Go.Proofs.Yteepfoiiidpchaa
open Go Go.VM
theorem ok_netlist_IsWord (x0 : ByteArray) (hok : OkA I_netlist_IsWord.args (x0, ())) : ∃ n, bodyE ty T_netlist_IsWord n I_netlist_IsWord (x0, ()) = some ((S_word x0, ()), ((), ())) := ⟨ByteArray.size x0 + 1, by
  have hl : ByteArray.size x0 ≤ maxLen := hok.1
  rw [B_netlist_IsWord_eq]
  unfold B_netlist_IsWord S_word
  refine (loop_list (l := x0.data.toList) (fun i (_ : Unit) => ((i, ()), ())) (fun a i _ => bif okB (a.toNat : Int) then .inl () else .inr (some ((false, ()), ((), ())))) (fun _ => some ((decide (1 ≤ ((ByteArray.size x0 : Nat) : Int)) && decide (((ByteArray.size x0 : Nat) : Int) ≤ 40), ()), ((), ()))) (fun i h s rec => ?_) (fun s rec => ?_) (Nat.lt_succ_self _) ()).trans ?_
  · have h' : i < ByteArray.size x0 := h
    simp only [lt_nat h', inB_nat h', strAt_nat h, succ64 h' hl, cond_true]
    generalize (x0.data.toList[i].toNat : Int) = c
    unfold okB
    simp only [show ∀ a b, S_strings_IndexByte a b = S_idx a b from fun _ _ => rfl]
    cases decide (c < 65) <;> cases decide (90 < c) <;> cases decide (c < 97) <;> cases decide (122 < c) <;> cases decide (c < 48) <;> cases decide (57 < c) <;> cases decide (S_idx (strOf [95, 43, 45, 35]) c < 0) <;> rfl
  · rw [← size_list]
    simp only [lt_self, cond_false]
    cases decide (1 ≤ ((ByteArray.size x0 : Nat) : Int)) <;> rfl
  · rw [all_go]
    cases x0.data.toList.all fun b => okB (b.toNat : Int) <;> rfl⟩
noncomputable def E_netlist_IsWord : Entry Try.prog := Entry.of tok T_netlist_IsWord I_netlist_IsWord it_netlist_IsWord (fun (x0, ()) => some ((S_word x0, ()), ((), ()))) (fun (x0, ()) r hok h => by cases h; exact ok_netlist_IsWord x0 hok)

end Go.Proofs.Yteepfoiiidpchaa
namespace Go.Proofs.Yteepfoiiidpchaa
open Go Go.VM
/-! ### etchhouse.mount.within -/
noncomputable def I_mount_within : Inst := ⟨17, Try.f17, .two (.reg []) (.two (.reg []) (.leaf)), (.cons (.pv i) (.cons (.pv i) (.cons (.pv i) .nil))), (.cons .flat .bool .nil)⟩
theorem it_mount_within : InTab Try.prog I_mount_within := ⟨Try.func17, by kernel_rfl, rfl⟩
noncomputable def T_mount_within : Nat → Entry Try.prog := nth (Entry.no Try.f0) []
noncomputable def B_mount_within (x0 : Int) (x1 : Int) (x2 : Int) : Option (((Bool × Unit) × (Unit × (Unit × (Unit × Unit))))) :=
  (bif decide ((x1 ≤ x0)) then
    some ((decide ((x0 ≤ x2)), ()), ((), ((), ((), ()))))
  else
    some ((false, ()), ((), ((), ((), ())))))
theorem B_mount_within_eq (n : Nat) (x0 : Int) (x1 : Int) (x2 : Int) : bodyE ty T_mount_within n I_mount_within (x0, (x1, (x2, ()))) = B_mount_within x0 x1 x2 := by kernel_rfl

end Go.Proofs.Yteepfoiiidpchaa
namespace Go.Proofs.Yteepfoiiidpchaa
open Go Go.VM
theorem ok_mount_within (x0 x1 x2 : Int) (hok : OkA I_mount_within.args (x0, x1, x2, ())) : ∃ n, bodyE ty T_mount_within n I_mount_within (x0, x1, x2, ()) = some ((S_within x0 x1 x2, ()), ((), (), (), ())) := ⟨0, by
  rw [B_mount_within_eq]; unfold B_mount_within S_within; cases decide (x1 ≤ x0) <;> rfl⟩
noncomputable def E_mount_within : Entry Try.prog := Entry.of tok T_mount_within I_mount_within it_mount_within (fun (x0, x1, x2, ()) => some ((S_within x0 x1 x2, ()), ((), (), (), ()))) (fun (x0, x1, x2, ()) r hok h => by cases h; exact ok_mount_within x0 x1 x2 hok)

end Go.Proofs.Yteepfoiiidpchaa
namespace Go.Proofs.Yteepfoiiidpchaa
open Go Go.VM
/-! ### etchhouse.mount.checkLots -/
noncomputable def I_mount_checkLots : Inst := ⟨24, Try.f24, .two (.reg []) (.two (.two (.reg []) (.two (.two (.reg []) (.leaf)) (.leaf))) (.two (.reg []) (.two (.two (.reg []) (.one (.loop ⟨[(15, .pv i)], [(5, ⟨.mapO, (.mp .str .bool), false, false⟩)], [5, 13, 14], []⟩ (.two (.reg []) (.two (.two (.leaf) (.leaf)) (.two (.one (.two (.reg []) (.two (.one (.two (.reg [(2, 0)]) (.two (.two (.reg []) (.leaf)) (.two (.reg [(2, 1), (7, 1)]) (.two (.two (.reg []) (.leaf)) (.two (.reg []) (.two (.two (.reg []) (.leaf)) (.leaf)))))))) (.reg [])))) (.reg []))))))) (.two (.reg []) (.leaf))))), (.cons (.pv (.sl (.pair .str (.pair i (.pair i .unit))))) (.cons (.pv i) .nil)), (.cons .flat i .nil)⟩
theorem it_mount_checkLots : InTab Try.prog I_mount_checkLots := ⟨Try.func24, by kernel_rfl, rfl⟩
noncomputable def T_mount_checkLots : Nat → Entry Try.prog := nth (Entry.no Try.f0) [E_netlist_IsWord, E_mount_within]
noncomputable def B_mount_checkLots (n : Nat) (x0 : List (ByteArray × (Int × (Int × Unit)))) (x1 : Int) : Option (((Int × Unit) × (Unit × (Unit × Unit)))) :=
  (bif decide ((x1 < ((x0.length : Nat) : Int))) then
    some ((2, ()), ((), ((), ())))
  else
    loopN (fun rec1 => fun
    | ((v1aa, ()), (v1ba, ())) =>
      (bif decide ((v1aa < ((x0.length : Nat) : Int))) then
        (bif inB v1aa x0.length then
          (bif (!(S_word ((x0.getD v1aa.toNat ((strOf []), (0, (0, ())))).1))) then
            some ((5, ()), ((), ((), ())))
          else
            (bif (!(S_within (((x0.getD v1aa.toNat ((strOf []), (0, (0, ())))).2).1) 0 1000000)) then
              some ((1, ()), ((), ((), ())))
            else
              (bif (!(S_within ((((x0.getD v1aa.toNat ((strOf []), (0, (0, ())))).2).2).1) 0 1000000)) then
                some ((1, ()), ((), ((), ())))
              else
                (bif lookM .str .bool v1ba ((x0.getD v1aa.toNat ((strOf []), (0, (0, ())))).1) then
                  some ((7, ()), ((), ((), ())))
                else
                  rec1 ((wrapI .i64 (v1aa + 1), ()), (setM .str .bool v1ba ((x0.getD v1aa.toNat ((strOf []), (0, (0, ())))).1) true, ()))))))
        else
          none)
      else
        some ((0, ()), ((), ((), ())))))
    n ((0, ()), ([], ())))
theorem B_mount_checkLots_eq (n : Nat) (x0 : List (ByteArray × (Int × (Int × Unit)))) (x1 : Int) : bodyE ty T_mount_checkLots n I_mount_checkLots (x0, (x1, ())) = B_mount_checkLots n x0 x1 := by kernel_rfl

end Go.Proofs.Yteepfoiiidpchaa
namespace Go.Proofs.Yteepfoiiidpchaa
open Go Go.VM
theorem ok_mount_checkLots (x0 : List Lot) (x1 : Int) (hok : OkA I_mount_checkLots.args (x0, x1, ())) : ∃ n, bodyE ty T_mount_checkLots n I_mount_checkLots (x0, x1, ()) = some ((S_lots x0 x1, ()), ((), (), ())) := ⟨x0.length + 1, by
  have hl : x0.length ≤ maxLen := hok.1.1
  rw [B_mount_checkLots_eq]
  unfold B_mount_checkLots S_lots
  cases hd : decide (x1 < (x0.length : Int)) with
  | true => rfl
  | false =>
    simp only [cond_false]
    refine (loop_listI (l := x0) (fun i (s : List (ByteArray × Bool)) => ((i, ()), (s, ()))) (fun i s => ∀ z, lookM .str .bool s z = (x0.take i).any (fun x => decide (x.1 = z))) (fun a i s => bif decide (lotC x0 a i = 0) then .inl (setM .str .bool s a.1 true) else .inr (some ((lotC x0 a i, ()), ((), (), ())))) (fun _ => some ((0, ()), ((), (), ()))) (fun i h s hI => ⟨fun s' e => ?_, fun rec => ?_⟩) (fun s _ rec => ?_) (Nat.lt_succ_self _) (s := []) (fun z => rfl)).trans ?_
    · cases hc : decide (lotC x0 x0[i] i = 0) with
      | false => rw [hc] at e; cases e
      | true =>
        rw [hc, cond_true] at e
        cases e
        intro z
        show lookM .str .bool (setM .str .bool s x0[i].1 true) z = _
        rw [lookM_setM rfl, take_any h, hI z]
        have : Ty.eqv .str z x0[i].1 = decide (x0[i].1 = z) := by rw [Bool.eq_iff_iff, eqv_iff (t := .str) rfl]; simp only [decide_eq_true_eq]; exact eq_comm
        rw [this]
        cases decide (x0[i].1 = z) <;> cases (x0.take i).any (fun x => decide (x.1 = z)) <;> rfl
    · have hlk := hI x0[i].1
      simp only [lt_nat h, inB_nat h, getD_lt h, succ64 h hl, cond_true, hlk]
      unfold lotC
      cases S_word x0[i].1 <;> cases S_within x0[i].2.1 0 1000000 <;> cases S_within x0[i].2.2.1 0 1000000 <;> cases (x0.take i).any (fun x => decide (x.1 = x0[i].1)) <;> rfl
    · simp only [lt_self, cond_false]
    · rw [first_goS (R := fun a => some ((a, ()), ((), (), ())))]
      cases hz : decide (firstC (lotC x0) x0 0 = 0) with
      | true => rw [of_decide_eq_true hz]; rfl
      | false => rfl⟩
noncomputable def E_mount_checkLots : Entry Try.prog := Entry.of tok T_mount_checkLots I_mount_checkLots it_mount_checkLots (fun (x0, x1, ()) => some ((S_lots x0 x1, ()), ((), (), ()))) (fun (x0, x1, ()) r hok h => by cases h; exact ok_mount_checkLots x0 x1 hok)

end Go.Proofs.Yteepfoiiidpchaa
namespace Go.Proofs.Yteepfoiiidpchaa
open Go Go.VM
/-! ### etchhouse.mount.isOrder -/
noncomputable def I_mount_isOrder : Inst := ⟨25, Try.f25, .two (.reg []) (.two (.reg []) (.two (.two (.reg []) (.one (.loop ⟨[(12, .pv i)], [(5, ⟨(.own .flat), (.sl .bool), false, false⟩)], [0, 1, 5, 10, 11], []⟩ (.two (.reg []) (.two (.two (.leaf) (.leaf)) (.two (.one (.two (.reg []) (.two (.two (.reg [(3, 0)]) (.two (.two (.reg []) (.leaf)) (.leaf))) (.reg [])))) (.reg []))))))) (.two (.reg []) (.leaf)))), (.cons (.pv (.sl i)) (.cons (.pv i) .nil)), (.cons .flat .bool .nil)⟩
theorem it_mount_isOrder : InTab Try.prog I_mount_isOrder := ⟨Try.func25, by kernel_rfl, rfl⟩
noncomputable def T_mount_isOrder : Nat → Entry Try.prog := nth (Entry.no Try.f0) [E_mount_within]
noncomputable def B_mount_isOrder (n : Nat) (x0 : List Int) (x1 : Int) : Option (((Bool × Unit) × (Unit × (Unit × Unit)))) :=
  (bif ((decide ((0 ≤ x1)) && decide ((x1 ≤ x1))) && decide ((x1 ≤ 4294967296))) then
    loopN (fun rec1 => fun
    | ((v1aa, ()), (v1ba, ())) =>
      (bif decide ((v1aa < ((x0.length : Nat) : Int))) then
        (bif inB v1aa x0.length then
          (bif (!(S_within (x0.getD v1aa.toNat (0 : Int)) 0 (wrapI .i64 (x1 - 1)))) then
            some ((false, ()), ((), ((), ())))
          else
            (bif inB (x0.getD v1aa.toNat (0 : Int)) v1ba.length then
              (bif v1ba.getD ((x0.getD v1aa.toNat (0 : Int)).toNat) false then
                some ((false, ()), ((), ((), ())))
              else
                (bif inB (x0.getD v1aa.toNat (0 : Int)) v1ba.length then
                  rec1 ((wrapI .i64 (v1aa + 1), ()), (v1ba.set ((x0.getD v1aa.toNat (0 : Int)).toNat) true, ()))
                else
                  none))
            else
              none))
        else
          none)
      else
        some ((decide ((((x0.length : Nat) : Int) = x1)), ()), ((), ((), ())))))
    n ((0, ()), (List.replicate (α := Bool) x1.toNat false, ()))
  else
    none)
theorem B_mount_isOrder_eq (n : Nat) (x0 : List Int) (x1 : Int) : bodyE ty T_mount_isOrder n I_mount_isOrder (x0, (x1, ())) = B_mount_isOrder n x0 x1 := by kernel_rfl

end Go.Proofs.Yteepfoiiidpchaa
namespace Go.Proofs.Yteepfoiiidpchaa
open Go Go.VM
noncomputable def S_isOrdO_mount_isOrder (x0 : List Int) (x1 : Int) : Option ((Bool × Unit) × Unit × Unit × Unit) := bif decide (0 ≤ x1) && decide (x1 ≤ 4294967296) then some ((S_isOrd x0 x1, ()), ((), (), ())) else none
theorem ok_mount_isOrder (x0 : List Int) (x1 : Int) (hok : OkA I_mount_isOrder.args (x0, x1, ())) (r) (h : S_isOrdO_mount_isOrder x0 x1 = some r) : ∃ n, bodyE ty T_mount_isOrder n I_mount_isOrder (x0, x1, ()) = some r := ⟨x0.length + 1, by
  have hl : x0.length ≤ maxLen := hok.1.1
  rw [B_mount_isOrder_eq, ← h]
  unfold S_isOrdO_mount_isOrder at h ⊢
  cases hd : decide (0 ≤ x1) && decide (x1 ≤ 4294967296) with
  | false => rw [hd] at h; cases h
  | true =>
    simp only [Bool.and_eq_true, decide_eq_true_eq] at hd
    obtain ⟨n, rfl⟩ : ∃ n : Nat, x1 = (n : Int) := ⟨x1.toNat, by omega⟩
    unfold B_mount_isOrder
    rw [decide_eq_true hd.1, decide_eq_true (show (n : Int) ≤ (n : Int) by omega), decide_eq_true hd.2]
    simp only [Bool.and_self, cond_true, Int.toNat_natCast]
    exact ord_loop (R := fun b => some ((b, ()), ((), (), ()))) hl (by omega) (Nat.lt_succ_self _)⟩
noncomputable def E_mount_isOrder : Entry Try.prog := Entry.of tok T_mount_isOrder I_mount_isOrder it_mount_isOrder (fun (x0, x1, ()) => S_isOrdO_mount_isOrder x0 x1) (fun (x0, x1, ()) r hok h => ok_mount_isOrder x0 x1 hok r h)

end Go.Proofs.Yteepfoiiidpchaa
namespace Go.Proofs.Yteepfoiiidpchaa
open Go Go.VM
/-! ### etchhouse.mount.makespan -/
noncomputable def I_mount_makespan : Inst := ⟨26, Try.f26, .two (.reg []) (.two (.reg []) (.two (.two (.reg []) (.one (.loop ⟨[(5, .pv i), (6, .pv i), (11, .pv i)], [], [0, 9, 10], []⟩ (.two (.reg []) (.two (.two (.leaf) (.leaf)) (.two (.one (.two (.reg []) (.two (.reg []) (.reg [])))) (.reg []))))))) (.two (.reg []) (.leaf)))), (.cons (.pv (.sl (.pair .str (.pair i (.pair i .unit))))) (.cons (.pv (.sl i)) .nil)), (.cons .flat i .nil)⟩
theorem it_mount_makespan : InTab Try.prog I_mount_makespan := ⟨Try.func26, by kernel_rfl, rfl⟩
noncomputable def T_mount_makespan : Nat → Entry Try.prog := nth (Entry.no Try.f0) []
noncomputable def B_mount_makespan (n : Nat) (x0 : List (ByteArray × (Int × (Int × Unit)))) (x1 : List Int) : Option (((Int × Unit) × (Unit × (Unit × Unit)))) :=
  loopN (fun rec1 => fun
  | ((v1aa, (v1aba, (v1abba, ()))), ()) =>
    (bif decide ((v1abba < ((x1.length : Nat) : Int))) then
      (bif inB v1abba x1.length then
        (bif inB (x1.getD v1abba.toNat (0 : Int)) x0.length then
          (bif inB (x1.getD v1abba.toNat (0 : Int)) x0.length then
            rec1 ((wrapI .i64 (v1aa + ((x0.getD ((x1.getD v1abba.toNat (0 : Int)).toNat) ((strOf []), (0, (0, ())))).2).1), (wrapI .i64 ((bif decide ((((wrapI .i64 (v1aa + ((x0.getD ((x1.getD v1abba.toNat (0 : Int)).toNat) ((strOf []), (0, (0, ())))).2).1)) : Int) < v1aba)) then v1aba else wrapI .i64 (v1aa + ((x0.getD ((x1.getD v1abba.toNat (0 : Int)).toNat) ((strOf []), (0, (0, ())))).2).1)) + (((x0.getD ((x1.getD v1abba.toNat (0 : Int)).toNat) ((strOf []), (0, (0, ())))).2).2).1), (wrapI .i64 (v1abba + 1), ()))), ())
          else
            none)
        else
          none)
      else
        none)
    else
      some ((v1aba, ()), ((), ((), ())))))
  n ((0, (0, (0, ()))), ())
theorem B_mount_makespan_eq (n : Nat) (x0 : List (ByteArray × (Int × (Int × Unit)))) (x1 : List Int) : bodyE ty T_mount_makespan n I_mount_makespan (x0, (x1, ())) = B_mount_makespan n x0 x1 := by kernel_rfl

end Go.Proofs.Yteepfoiiidpchaa
namespace Go.Proofs.Yteepfoiiidpchaa
open Go Go.VM
noncomputable def S_mkO_mount_makespan (x0 : List Lot) (x1 : List Int) : Option ((Int × Unit) × Unit × Unit × Unit) := open Classical in if GoodL x0 ∧ x1.length ≤ 200 ∧ ∀ k, k ∈ x1 → 0 ≤ k ∧ k < (x0.length : Int) then some ((mkZ x0 x1, ()), ((), (), ())) else none
theorem ok_mount_makespan (x0 : List Lot) (x1 : List Int) (hok : OkA I_mount_makespan.args (x0, x1, ())) (r) (h : S_mkO_mount_makespan x0 x1 = some r) : ∃ n, bodyE ty T_mount_makespan n I_mount_makespan (x0, x1, ()) = some r := ⟨x1.length + 1, by
  rw [B_mount_makespan_eq, ← h]
  by_cases hg : GoodL x0 ∧ x1.length ≤ 200 ∧ ∀ k, k ∈ x1 → 0 ≤ k ∧ k < (x0.length : Int)
  case neg => unfold S_mkO_mount_makespan at h; rw [if_neg hg] at h; cases h
  have hS : S_mkO_mount_makespan x0 x1 = some ((mkZ x0 x1, ()), ((), (), ())) := by unfold S_mkO_mount_makespan; rw [if_pos hg]
  rw [hS]
  obtain ⟨hG, hlen, hat⟩ := hg
  unfold B_mount_makespan
  refine loop_meas (fun x => ∃ i : Nat, i ≤ x1.length ∧ x = (((mkS x0 (x1.take i)).1, ((mkS x0 (x1.take i)).2, ((i : Int), ()))), ())) (fun x => x1.length - x.1.2.2.1.toNat) _ ?_ (x1.length + 1) _ ⟨0, Nat.zero_le _, by rw [List.take_zero]; rfl⟩ (by show x1.length - (0 : Int).toNat < _; omega)
  rintro _ ⟨i, h1, rfl⟩
  by_cases hi : i < x1.length
  · right
    have hk := hat _ (List.getElem_mem hi)
    have htk : x1.take (i + 1) = x1.take i ++ [x1[i]] := by rw [List.take_add_one, List.getElem?_eq_getElem hi]; rfl
    have hb := mk_bound hG (x1.take i)
    have hb2 := mk_bound hG (x1.take (i + 1))
    rw [List.length_take, Nat.min_eq_left h1] at hb
    obtain ⟨⟨a1, a2⟩, b1, b2⟩ := hG.get x1[i].toNat
    have i1 : wrapI .i64 (((i : Nat) : Int) + 1) = ((i + 1 : Nat) : Int) := (wrap64 (by omega) (by omega)).trans (by omega)
    have w1 : wrapI .i64 ((mkS x0 (x1.take i)).1 + (x0.getD x1[i].toNat lot0).2.1) = (mkS x0 (x1.take i)).1 + (x0.getD x1[i].toNat lot0).2.1 := wrap64 (by omega) (by omega)
    have hm := maxZ_le (a := (mkS x0 (x1.take i)).1 + (x0.getD x1[i].toNat lot0).2.1) (b := (mkS x0 (x1.take i)).2)
    refine ⟨_, ⟨i + 1, hi, rfl⟩, ?_, fun rec => ?_⟩
    · show x1.length - (((i + 1 : Nat) : Int)).toNat < x1.length - ((i : Int)).toNat
      rw [Int.toNat_natCast, Int.toNat_natCast]; omega
    · rw [htk, mkS_snoc]
      simp only [lt_nat hi, inB_nat hi, getD_at hi, inB_int hk.1 hk.2, i1, cond_true, Int.toNat_natCast]
      change rec ((wrapI .i64 ((mkS x0 (x1.take i)).1 + (x0.getD x1[i].toNat lot0).2.1), (wrapI .i64 ((bif decide (wrapI .i64 ((mkS x0 (x1.take i)).1 + (x0.getD x1[i].toNat lot0).2.1) < (mkS x0 (x1.take i)).2) then (mkS x0 (x1.take i)).2 else wrapI .i64 ((mkS x0 (x1.take i)).1 + (x0.getD x1[i].toNat lot0).2.1)) + (x0.getD x1[i].toNat lot0).2.2.1), (((i + 1 : Nat) : Int), ()))), ()) = _
      rw [w1]
      have e : (bif decide ((mkS x0 (x1.take i)).1 + (x0.getD x1[i].toNat lot0).2.1 < (mkS x0 (x1.take i)).2) then (mkS x0 (x1.take i)).2 else (mkS x0 (x1.take i)).1 + (x0.getD x1[i].toNat lot0).2.1) = maxZ ((mkS x0 (x1.take i)).1 + (x0.getD x1[i].toNat lot0).2.1) (mkS x0 (x1.take i)).2 := by
        unfold maxZ
        split
        · rename_i h; rw [decide_eq_true h]; rfl
        · rename_i h; rw [decide_eq_false h]; rfl
      rw [e, wrap64 (n := maxZ _ _ + _) (by omega) (by omega)]
      rfl
  · left
    intro rec
    obtain rfl : i = x1.length := by omega
    rw [List.take_length]
    simp only [lt_self, cond_false]
    rfl⟩
noncomputable def E_mount_makespan : Entry Try.prog := Entry.of tok T_mount_makespan I_mount_makespan it_mount_makespan (fun (x0, x1, ()) => S_mkO_mount_makespan x0 x1) (fun (x0, x1, ()) r hok h => ok_mount_makespan x0 x1 hok r h)

end Go.Proofs.Yteepfoiiidpchaa
namespace Go.Proofs.Yteepfoiiidpchaa
open Go Go.VM
/-! ### etchhouse.mount.Makespan -/
noncomputable def I_mount_Makespan : Inst := ⟨12, Try.f12, .two (.reg []) (.two (.two (.reg [(1, 0)]) (.two (.reg []) (.two (.two (.reg []) (.leaf)) (.leaf)))) (.two (.two (.reg [(3, 1)]) (.two (.two (.reg []) (.leaf)) (.leaf))) (.two (.reg [(2, 2)]) (.leaf)))), (.cons (.pv (.sl (.pair .str (.pair i (.pair i .unit))))) (.cons (.pv (.sl i)) .nil)), (.cons .flat i (.cons .flat i .nil))⟩
theorem it_mount_Makespan : InTab Try.prog I_mount_Makespan := ⟨Try.func12, by kernel_rfl, rfl⟩
noncomputable def T_mount_Makespan : Nat → Entry Try.prog := nth (Entry.no Try.f0) [E_mount_checkLots, E_mount_isOrder, E_mount_makespan]
noncomputable def B_mount_Makespan (x0 : List (ByteArray × (Int × (Int × Unit)))) (x1 : List Int) : Option (((Int × (Int × Unit)) × (Unit × (Unit × Unit)))) :=
  (bif (!(decide ((S_lots x0 200 = 0)))) then
    some ((0, (S_lots x0 200, ())), ((), ((), ())))
  else
    ((S_isOrdO_mount_isOrder x1 ((x0.length : Nat) : Int)).bind fun ((r1aa, ()), ((), ((), ()))) =>
    (bif (!r1aa) then
      some ((0, (3, ())), ((), ((), ())))
    else
      ((S_mkO_mount_makespan x0 x1).bind fun ((r2aa, ()), ((), ((), ()))) =>
      some ((r2aa, (0, ())), ((), ((), ())))))))
theorem B_mount_Makespan_eq (n : Nat) (x0 : List (ByteArray × (Int × (Int × Unit)))) (x1 : List Int) : bodyE ty T_mount_Makespan n I_mount_Makespan (x0, (x1, ())) = B_mount_Makespan x0 x1 := by kernel_rfl

end Go.Proofs.Yteepfoiiidpchaa
namespace Go.Proofs.Yteepfoiiidpchaa
open Go Go.VM
noncomputable def E_mount_Makespan : Entry Try.prog := Entry.of tok T_mount_Makespan I_mount_Makespan it_mount_Makespan (fun x => B_mount_Makespan x.1 x.2.1) (fun (a0, a1, ()) r _ h => ⟨0, (B_mount_Makespan_eq 0 a0 a1).trans h⟩)

end Go.Proofs.Yteepfoiiidpchaa
namespace Go.Proofs.Yteepfoiiidpchaa
open Go Go.VM
/-! ### etchhouse.etchhouseref10.within -/
noncomputable def I_etchhouseref10_within : Inst := ⟨20, Try.f20, .two (.reg []) (.two (.reg []) (.leaf)), (.cons (.pv i) (.cons (.pv i) (.cons (.pv i) .nil))), (.cons .flat .bool .nil)⟩
theorem it_etchhouseref10_within : InTab Try.prog I_etchhouseref10_within := ⟨Try.func20, by kernel_rfl, rfl⟩
noncomputable def T_etchhouseref10_within : Nat → Entry Try.prog := nth (Entry.no Try.f0) []
noncomputable def B_etchhouseref10_within (x0 : Int) (x1 : Int) (x2 : Int) : Option (((Bool × Unit) × (Unit × (Unit × (Unit × Unit))))) :=
  (bif decide ((x1 ≤ x0)) then
    some ((decide ((x0 ≤ x2)), ()), ((), ((), ((), ()))))
  else
    some ((false, ()), ((), ((), ((), ())))))
theorem B_etchhouseref10_within_eq (n : Nat) (x0 : Int) (x1 : Int) (x2 : Int) : bodyE ty T_etchhouseref10_within n I_etchhouseref10_within (x0, (x1, (x2, ()))) = B_etchhouseref10_within x0 x1 x2 := by kernel_rfl

end Go.Proofs.Yteepfoiiidpchaa
namespace Go.Proofs.Yteepfoiiidpchaa
open Go Go.VM
theorem ok_etchhouseref10_within (x0 x1 x2 : Int) (hok : OkA I_etchhouseref10_within.args (x0, x1, x2, ())) : ∃ n, bodyE ty T_etchhouseref10_within n I_etchhouseref10_within (x0, x1, x2, ()) = some ((S_within x0 x1 x2, ()), ((), (), (), ())) := ⟨0, by
  rw [B_etchhouseref10_within_eq]; unfold B_etchhouseref10_within S_within; cases decide (x1 ≤ x0) <;> rfl⟩
noncomputable def E_etchhouseref10_within : Entry Try.prog := Entry.of tok T_etchhouseref10_within I_etchhouseref10_within it_etchhouseref10_within (fun (x0, x1, x2, ()) => some ((S_within x0 x1 x2, ()), ((), (), (), ()))) (fun (x0, x1, x2, ()) r hok h => by cases h; exact ok_etchhouseref10_within x0 x1 x2 hok)

end Go.Proofs.Yteepfoiiidpchaa
namespace Go.Proofs.Yteepfoiiidpchaa
open Go Go.VM
/-! ### etchhouse.etchhouseref10.isWord -/
noncomputable def I_etchhouseref10_isWord : Inst := ⟨36, Try.f36, .two (.reg []) (.two (.two (.reg []) (.one (.loop ⟨[(7, .pv i)], [], [0, 6], []⟩ (.two (.reg []) (.two (.two (.leaf) (.leaf)) (.two (.one (.two (.reg []) (.two (.reg []) (.two (.reg [(24, 0)]) (.two (.two (.reg []) (.leaf)) (.leaf)))))) (.reg []))))))) (.two (.reg [(2, 1)]) (.leaf))), (.cons (.pv .str) .nil), (.cons .flat .bool .nil)⟩
theorem it_etchhouseref10_isWord : InTab Try.prog I_etchhouseref10_isWord := ⟨Try.func36, by kernel_rfl, rfl⟩
noncomputable def T_etchhouseref10_isWord : Nat → Entry Try.prog := nth (Entry.no Try.f0) [E_strings_IndexByte, E_etchhouseref10_within]
noncomputable def B_etchhouseref10_isWord (n : Nat) (x0 : ByteArray) : Option (((Bool × Unit) × (Unit × Unit))) :=
  loopN (fun rec1 => fun
  | ((v1aa, ()), ()) =>
    (bif decide ((v1aa < ((ByteArray.size x0 : Nat) : Int))) then
      (bif inB v1aa (ByteArray.size x0) then
        (bif decide ((strAt x0 v1aa.toNat < 97)) then
          (bif decide ((strAt x0 v1aa.toNat < 65)) then
            (bif decide ((strAt x0 v1aa.toNat < 48)) then
              (bif decide ((S_strings_IndexByte (strOf [95, 43, 45, 35]) (strAt x0 v1aa.toNat) < 0)) then
                some ((false, ()), ((), ()))
              else
                rec1 ((wrapI .i64 (v1aa + 1), ()), ()))
            else
              (bif decide ((57 < strAt x0 v1aa.toNat)) then
                (bif decide ((S_strings_IndexByte (strOf [95, 43, 45, 35]) (strAt x0 v1aa.toNat) < 0)) then
                  some ((false, ()), ((), ()))
                else
                  rec1 ((wrapI .i64 (v1aa + 1), ()), ()))
              else
                rec1 ((wrapI .i64 (v1aa + 1), ()), ())))
          else
            (bif decide ((90 < strAt x0 v1aa.toNat)) then
              (bif decide ((strAt x0 v1aa.toNat < 48)) then
                (bif decide ((S_strings_IndexByte (strOf [95, 43, 45, 35]) (strAt x0 v1aa.toNat) < 0)) then
                  some ((false, ()), ((), ()))
                else
                  rec1 ((wrapI .i64 (v1aa + 1), ()), ()))
              else
                (bif decide ((57 < strAt x0 v1aa.toNat)) then
                  (bif decide ((S_strings_IndexByte (strOf [95, 43, 45, 35]) (strAt x0 v1aa.toNat) < 0)) then
                    some ((false, ()), ((), ()))
                  else
                    rec1 ((wrapI .i64 (v1aa + 1), ()), ()))
                else
                  rec1 ((wrapI .i64 (v1aa + 1), ()), ())))
            else
              rec1 ((wrapI .i64 (v1aa + 1), ()), ())))
        else
          (bif decide ((122 < strAt x0 v1aa.toNat)) then
            (bif decide ((strAt x0 v1aa.toNat < 65)) then
              (bif decide ((strAt x0 v1aa.toNat < 48)) then
                (bif decide ((S_strings_IndexByte (strOf [95, 43, 45, 35]) (strAt x0 v1aa.toNat) < 0)) then
                  some ((false, ()), ((), ()))
                else
                  rec1 ((wrapI .i64 (v1aa + 1), ()), ()))
              else
                (bif decide ((57 < strAt x0 v1aa.toNat)) then
                  (bif decide ((S_strings_IndexByte (strOf [95, 43, 45, 35]) (strAt x0 v1aa.toNat) < 0)) then
                    some ((false, ()), ((), ()))
                  else
                    rec1 ((wrapI .i64 (v1aa + 1), ()), ()))
                else
                  rec1 ((wrapI .i64 (v1aa + 1), ()), ())))
            else
              (bif decide ((90 < strAt x0 v1aa.toNat)) then
                (bif decide ((strAt x0 v1aa.toNat < 48)) then
                  (bif decide ((S_strings_IndexByte (strOf [95, 43, 45, 35]) (strAt x0 v1aa.toNat) < 0)) then
                    some ((false, ()), ((), ()))
                  else
                    rec1 ((wrapI .i64 (v1aa + 1), ()), ()))
                else
                  (bif decide ((57 < strAt x0 v1aa.toNat)) then
                    (bif decide ((S_strings_IndexByte (strOf [95, 43, 45, 35]) (strAt x0 v1aa.toNat) < 0)) then
                      some ((false, ()), ((), ()))
                    else
                      rec1 ((wrapI .i64 (v1aa + 1), ()), ()))
                  else
                    rec1 ((wrapI .i64 (v1aa + 1), ()), ())))
              else
                rec1 ((wrapI .i64 (v1aa + 1), ()), ())))
          else
            rec1 ((wrapI .i64 (v1aa + 1), ()), ())))
      else
        none)
    else
      some ((S_within ((ByteArray.size x0 : Nat) : Int) 1 40, ()), ((), ()))))
  n ((0, ()), ())
theorem B_etchhouseref10_isWord_eq (n : Nat) (x0 : ByteArray) : bodyE ty T_etchhouseref10_isWord n I_etchhouseref10_isWord (x0, ()) = B_etchhouseref10_isWord n x0 := by kernel_rfl

end Go.Proofs.Yteepfoiiidpchaa
namespace Go.Proofs.Yteepfoiiidpchaa
open Go Go.VM
theorem ok_etchhouseref10_isWord (x0 : ByteArray) (hok : OkA I_etchhouseref10_isWord.args (x0, ())) : ∃ n, bodyE ty T_etchhouseref10_isWord n I_etchhouseref10_isWord (x0, ()) = some ((S_word x0, ()), ((), ())) := ⟨ByteArray.size x0 + 1, by
  have hl : ByteArray.size x0 ≤ maxLen := hok.1
  rw [B_etchhouseref10_isWord_eq]
  unfold B_etchhouseref10_isWord S_word
  refine (loop_list (l := x0.data.toList) (fun i (_ : Unit) => ((i, ()), ())) (fun a i _ => bif okB (a.toNat : Int) then .inl () else .inr (some ((false, ()), ((), ())))) (fun _ => some ((decide (1 ≤ ((ByteArray.size x0 : Nat) : Int)) && decide (((ByteArray.size x0 : Nat) : Int) ≤ 40), ()), ((), ()))) (fun i h s rec => ?_) (fun s rec => ?_) (Nat.lt_succ_self _) ()).trans ?_
  · have h' : i < ByteArray.size x0 := h
    simp only [lt_nat h', inB_nat h', strAt_nat h, succ64 h' hl, cond_true]
    generalize (x0.data.toList[i].toNat : Int) = c
    unfold okB
    simp only [show ∀ a b, S_strings_IndexByte a b = S_idx a b from fun _ _ => rfl]
    cases decide (c < 65) <;> cases decide (90 < c) <;> cases decide (c < 97) <;> cases decide (122 < c) <;> cases decide (c < 48) <;> cases decide (57 < c) <;> cases decide (S_idx (strOf [95, 43, 45, 35]) c < 0) <;> rfl
  · rw [← size_list]
    simp only [lt_self, cond_false]
    rfl
  · rw [all_go]
    cases x0.data.toList.all fun b => okB (b.toNat : Int) <;> rfl⟩
noncomputable def E_etchhouseref10_isWord : Entry Try.prog := Entry.of tok T_etchhouseref10_isWord I_etchhouseref10_isWord it_etchhouseref10_isWord (fun (x0, ()) => some ((S_word x0, ()), ((), ()))) (fun (x0, ()) r hok h => by cases h; exact ok_etchhouseref10_isWord x0 hok)

end Go.Proofs.Yteepfoiiidpchaa
namespace Go.Proofs.Yteepfoiiidpchaa
open Go Go.VM
/-! ### etchhouse.etchhouseref10.checkBatches -/
noncomputable def I_etchhouseref10_checkBatches : Inst := ⟨27, Try.f27, .two (.reg []) (.two (.two (.reg []) (.two (.two (.reg []) (.leaf)) (.leaf))) (.two (.two (.reg []) (.one (.loop ⟨[(15, .pv i)], [], [0, 13, 14], []⟩ (.two (.reg []) (.two (.two (.leaf) (.leaf)) (.two (.one (.two (.reg []) (.two (.one (.two (.reg [(2, 0)]) (.two (.two (.reg []) (.leaf)) (.two (.reg [(2, 1), (7, 1)]) (.two (.two (.reg []) (.leaf)) (.leaf)))))) (.two (.reg []) (.one (.loop ⟨[(40, .pv i)], [], [0, 6, 13, 14, 15, 31, 32, 33, 34, 38, 39], [6]⟩ (.two (.reg []) (.two (.two (.leaf) (.leaf)) (.two (.one (.two (.reg []) (.two (.reg []) (.two (.two (.reg []) (.leaf)) (.leaf))))) (.reg [])))))))))) (.reg []))))))) (.two (.reg []) (.leaf)))), (.cons (.pv (.sl (.pair .str (.pair i (.pair i .unit))))) (.cons (.pv i) .nil)), (.cons .flat i .nil)⟩
theorem it_etchhouseref10_checkBatches : InTab Try.prog I_etchhouseref10_checkBatches := ⟨Try.func27, by kernel_rfl, rfl⟩
noncomputable def T_etchhouseref10_checkBatches : Nat → Entry Try.prog := nth (Entry.no Try.f0) [E_etchhouseref10_isWord, E_etchhouseref10_within]
noncomputable def B_etchhouseref10_checkBatches (n : Nat) (x0 : List (ByteArray × (Int × (Int × Unit)))) (x1 : Int) : Option (((Int × Unit) × (Unit × (Unit × Unit)))) :=
  (bif decide ((x1 < ((x0.length : Nat) : Int))) then
    some ((2, ()), ((), ((), ())))
  else
    loopN (fun rec1 => fun
    | ((v1aa, ()), ()) =>
      (bif decide ((v1aa < ((x0.length : Nat) : Int))) then
        (bif inB v1aa x0.length then
          (bif (!(S_word ((x0.getD v1aa.toNat ((strOf []), (0, (0, ())))).1))) then
            some ((5, ()), ((), ((), ())))
          else
            (bif (!(S_within (((x0.getD v1aa.toNat ((strOf []), (0, (0, ())))).2).1) 0 1000000)) then
              some ((1, ()), ((), ((), ())))
            else
              (bif (!(S_within ((((x0.getD v1aa.toNat ((strOf []), (0, (0, ())))).2).2).1) 0 1000000)) then
                some ((1, ()), ((), ((), ())))
              else
                (bif (decide ((0 ≤ v1aa)) && decide ((v1aa ≤ ((x0.length : Nat) : Int)))) then
                  loopN (fun rec2 => fun
                  | ((v2aa, ()), ()) =>
                    (bif decide ((v2aa < ((((x0.drop 0).take (v1aa.toNat - 0)).length : Nat) : Int))) then
                      (bif inB v2aa (((x0.drop 0).take (v1aa.toNat - 0)).length) then
                        (bif decide ((ByteArray.toList ((((x0.drop 0).take (v1aa.toNat - 0)).getD v2aa.toNat ((strOf []), (0, (0, ())))).1) = ByteArray.toList ((x0.getD v1aa.toNat ((strOf []), (0, (0, ())))).1))) then
                          some ((7, ()), ((), ((), ())))
                        else
                          rec2 ((wrapI .i64 (v2aa + 1), ()), ()))
                      else
                        none)
                    else
                      rec1 ((wrapI .i64 (v1aa + 1), ()), ())))
                  n ((0, ()), ())
                else
                  none))))
        else
          none)
      else
        some ((0, ()), ((), ((), ())))))
    n ((0, ()), ()))
theorem B_etchhouseref10_checkBatches_eq (n : Nat) (x0 : List (ByteArray × (Int × (Int × Unit)))) (x1 : Int) : bodyE ty T_etchhouseref10_checkBatches n I_etchhouseref10_checkBatches (x0, (x1, ())) = B_etchhouseref10_checkBatches n x0 x1 := by kernel_rfl

end Go.Proofs.Yteepfoiiidpchaa
namespace Go.Proofs.Yteepfoiiidpchaa
open Go Go.VM
theorem ok_etchhouseref10_checkBatches (x0 : List Lot) (x1 : Int) (hok : OkA I_etchhouseref10_checkBatches.args (x0, x1, ())) : ∃ n, bodyE ty T_etchhouseref10_checkBatches n I_etchhouseref10_checkBatches (x0, x1, ()) = some ((S_lots x0 x1, ()), ((), (), ())) := ⟨x0.length + 1, by
  have hl : x0.length ≤ maxLen := hok.1.1
  rw [B_etchhouseref10_checkBatches_eq]
  unfold B_etchhouseref10_checkBatches S_lots
  cases hd : decide (x1 < (x0.length : Int)) with
  | true => rfl
  | false =>
    simp only [cond_false]
    refine (loop_list (l := x0) (fun i (_ : Unit) => ((i, ()), ())) (fun a i _ => bif decide (lotC x0 a i = 0) then .inl () else .inr (some ((lotC x0 a i, ()), ((), (), ())))) (fun _ => some ((0, ()), ((), (), ()))) (fun i h s rec => ?_) (fun s rec => ?_) (Nat.lt_succ_self _) ()).trans ?_
    · have hle : (x0.take i).length ≤ x0.length := by rw [List.length_take]; omega
      have any := fun (Y N : Option ((Int × Unit) × Unit × Unit × Unit)) => any_loop (A := ((Int × Unit) × Unit × Unit × Unit)) (fun y : Lot => decide (y.1 = x0[i].1)) (Y := Y) (N := N) lot0 (Nat.le_trans hle hl) (Nat.lt_succ_of_le hle)
      have s2 : (decide ((0 : Int) ≤ (i : Int)) && decide ((i : Int) ≤ ((x0.length : Nat) : Int))) = true := by rw [decide_eq_true (show (0 : Int) ≤ (i : Int) by omega), decide_eq_true (show (i : Int) ≤ ((x0.length : Nat) : Int) by omega)]; rfl
      simp only [lt_nat h, inB_nat h, getD_lt h, getD_at h, succ64 h hl, cond_true, s2, Int.toNat_natCast, List.drop_zero, Nat.sub_zero, str_dec]
      unfold lotC
      cases S_word x0[i].1 with
      | false => rfl
      | true =>
        cases S_within x0[i].2.1 0 1000000 with
        | false => rfl
        | true =>
          cases S_within x0[i].2.2.1 0 1000000 with
          | false => rfl
          | true =>
            refine (any _ _).trans ?_
            cases (x0.take i).any (fun x => decide (x.1 = x0[i].1)) <;> rfl
    · simp only [lt_self, cond_false]
    · rw [first_go (R := fun a => some ((a, ()), ((), (), ())))]
      cases hz : decide (firstC (lotC x0) x0 0 = 0) with
      | true => rw [of_decide_eq_true hz]; rfl
      | false => rfl⟩
noncomputable def E_etchhouseref10_checkBatches : Entry Try.prog := Entry.of tok T_etchhouseref10_checkBatches I_etchhouseref10_checkBatches it_etchhouseref10_checkBatches (fun (x0, x1, ()) => some ((S_lots x0 x1, ()), ((), (), ()))) (fun (x0, x1, ()) r hok h => by cases h; exact ok_etchhouseref10_checkBatches x0 x1 hok)

end Go.Proofs.Yteepfoiiidpchaa
namespace Go.Proofs.Yteepfoiiidpchaa
open Go Go.VM
/-! ### etchhouse.etchhouseref10.IsOrder -/
noncomputable def I_etchhouseref10_IsOrder : Inst := ⟨28, Try.f28, .two (.reg []) (.two (.reg []) (.two (.two (.reg []) (.one (.loop ⟨[(12, .pv i)], [(5, ⟨(.own .flat), (.sl .bool), false, false⟩)], [0, 1, 5, 10, 11], []⟩ (.two (.reg []) (.two (.two (.leaf) (.leaf)) (.two (.one (.two (.reg []) (.two (.two (.reg [(3, 0)]) (.two (.two (.reg []) (.leaf)) (.leaf))) (.reg [])))) (.reg []))))))) (.two (.reg []) (.leaf)))), (.cons (.pv (.sl i)) (.cons (.pv i) .nil)), (.cons .flat .bool .nil)⟩
theorem it_etchhouseref10_IsOrder : InTab Try.prog I_etchhouseref10_IsOrder := ⟨Try.func28, by kernel_rfl, rfl⟩
noncomputable def T_etchhouseref10_IsOrder : Nat → Entry Try.prog := nth (Entry.no Try.f0) [E_etchhouseref10_within]
noncomputable def B_etchhouseref10_IsOrder (n : Nat) (x0 : List Int) (x1 : Int) : Option (((Bool × Unit) × (Unit × (Unit × Unit)))) :=
  (bif ((decide ((0 ≤ x1)) && decide ((x1 ≤ x1))) && decide ((x1 ≤ 4294967296))) then
    loopN (fun rec1 => fun
    | ((v1aa, ()), (v1ba, ())) =>
      (bif decide ((v1aa < ((x0.length : Nat) : Int))) then
        (bif inB v1aa x0.length then
          (bif (!(S_within (x0.getD v1aa.toNat (0 : Int)) 0 (wrapI .i64 (x1 - 1)))) then
            some ((false, ()), ((), ((), ())))
          else
            (bif inB (x0.getD v1aa.toNat (0 : Int)) v1ba.length then
              (bif v1ba.getD ((x0.getD v1aa.toNat (0 : Int)).toNat) false then
                some ((false, ()), ((), ((), ())))
              else
                (bif inB (x0.getD v1aa.toNat (0 : Int)) v1ba.length then
                  rec1 ((wrapI .i64 (v1aa + 1), ()), (v1ba.set ((x0.getD v1aa.toNat (0 : Int)).toNat) true, ()))
                else
                  none))
            else
              none))
        else
          none)
      else
        some ((decide ((((x0.length : Nat) : Int) = x1)), ()), ((), ((), ())))))
    n ((0, ()), (List.replicate (α := Bool) x1.toNat false, ()))
  else
    none)
theorem B_etchhouseref10_IsOrder_eq (n : Nat) (x0 : List Int) (x1 : Int) : bodyE ty T_etchhouseref10_IsOrder n I_etchhouseref10_IsOrder (x0, (x1, ())) = B_etchhouseref10_IsOrder n x0 x1 := by kernel_rfl

end Go.Proofs.Yteepfoiiidpchaa
namespace Go.Proofs.Yteepfoiiidpchaa
open Go Go.VM
noncomputable def S_isOrdO_etchhouseref10_IsOrder (x0 : List Int) (x1 : Int) : Option ((Bool × Unit) × Unit × Unit × Unit) := bif decide (0 ≤ x1) && decide (x1 ≤ 4294967296) then some ((S_isOrd x0 x1, ()), ((), (), ())) else none
theorem ok_etchhouseref10_IsOrder (x0 : List Int) (x1 : Int) (hok : OkA I_etchhouseref10_IsOrder.args (x0, x1, ())) (r) (h : S_isOrdO_etchhouseref10_IsOrder x0 x1 = some r) : ∃ n, bodyE ty T_etchhouseref10_IsOrder n I_etchhouseref10_IsOrder (x0, x1, ()) = some r := ⟨x0.length + 1, by
  have hl : x0.length ≤ maxLen := hok.1.1
  rw [B_etchhouseref10_IsOrder_eq, ← h]
  unfold S_isOrdO_etchhouseref10_IsOrder at h ⊢
  cases hd : decide (0 ≤ x1) && decide (x1 ≤ 4294967296) with
  | false => rw [hd] at h; cases h
  | true =>
    simp only [Bool.and_eq_true, decide_eq_true_eq] at hd
    obtain ⟨n, rfl⟩ : ∃ n : Nat, x1 = (n : Int) := ⟨x1.toNat, by omega⟩
    unfold B_etchhouseref10_IsOrder
    rw [decide_eq_true hd.1, decide_eq_true (show (n : Int) ≤ (n : Int) by omega), decide_eq_true hd.2]
    simp only [Bool.and_self, cond_true, Int.toNat_natCast]
    exact ord_loop (R := fun b => some ((b, ()), ((), (), ()))) hl (by omega) (Nat.lt_succ_self _)⟩
noncomputable def E_etchhouseref10_IsOrder : Entry Try.prog := Entry.of tok T_etchhouseref10_IsOrder I_etchhouseref10_IsOrder it_etchhouseref10_IsOrder (fun (x0, x1, ()) => S_isOrdO_etchhouseref10_IsOrder x0 x1) (fun (x0, x1, ()) r hok h => ok_etchhouseref10_IsOrder x0 x1 hok r h)

end Go.Proofs.Yteepfoiiidpchaa
namespace Go.Proofs.Yteepfoiiidpchaa
open Go Go.VM
/-! ### etchhouse.etchhouseref10.makespan -/
noncomputable def I_etchhouseref10_makespan : Inst := ⟨29, Try.f29, .two (.reg []) (.two (.reg []) (.two (.two (.reg []) (.one (.loop ⟨[(5, .pv i), (6, .pv i), (11, .pv i)], [], [0, 9, 10], []⟩ (.two (.reg []) (.two (.two (.leaf) (.leaf)) (.two (.one (.two (.reg []) (.two (.reg []) (.reg [])))) (.reg []))))))) (.two (.reg []) (.leaf)))), (.cons (.pv (.sl (.pair .str (.pair i (.pair i .unit))))) (.cons (.pv (.sl i)) .nil)), (.cons .flat i .nil)⟩
theorem it_etchhouseref10_makespan : InTab Try.prog I_etchhouseref10_makespan := ⟨Try.func29, by kernel_rfl, rfl⟩
noncomputable def T_etchhouseref10_makespan : Nat → Entry Try.prog := nth (Entry.no Try.f0) []
noncomputable def B_etchhouseref10_makespan (n : Nat) (x0 : List (ByteArray × (Int × (Int × Unit)))) (x1 : List Int) : Option (((Int × Unit) × (Unit × (Unit × Unit)))) :=
  loopN (fun rec1 => fun
  | ((v1aa, (v1aba, (v1abba, ()))), ()) =>
    (bif decide ((v1abba < ((x1.length : Nat) : Int))) then
      (bif inB v1abba x1.length then
        (bif inB (x1.getD v1abba.toNat (0 : Int)) x0.length then
          (bif inB (x1.getD v1abba.toNat (0 : Int)) x0.length then
            rec1 ((wrapI .i64 (v1aa + ((x0.getD ((x1.getD v1abba.toNat (0 : Int)).toNat) ((strOf []), (0, (0, ())))).2).1), (wrapI .i64 ((bif decide ((((wrapI .i64 (v1aa + ((x0.getD ((x1.getD v1abba.toNat (0 : Int)).toNat) ((strOf []), (0, (0, ())))).2).1)) : Int) < v1aba)) then v1aba else wrapI .i64 (v1aa + ((x0.getD ((x1.getD v1abba.toNat (0 : Int)).toNat) ((strOf []), (0, (0, ())))).2).1)) + (((x0.getD ((x1.getD v1abba.toNat (0 : Int)).toNat) ((strOf []), (0, (0, ())))).2).2).1), (wrapI .i64 (v1abba + 1), ()))), ())
          else
            none)
        else
          none)
      else
        none)
    else
      some ((v1aba, ()), ((), ((), ())))))
  n ((0, (0, (0, ()))), ())
theorem B_etchhouseref10_makespan_eq (n : Nat) (x0 : List (ByteArray × (Int × (Int × Unit)))) (x1 : List Int) : bodyE ty T_etchhouseref10_makespan n I_etchhouseref10_makespan (x0, (x1, ())) = B_etchhouseref10_makespan n x0 x1 := by kernel_rfl

end Go.Proofs.Yteepfoiiidpchaa
namespace Go.Proofs.Yteepfoiiidpchaa
open Go Go.VM
noncomputable def S_mkO_etchhouseref10_makespan (x0 : List Lot) (x1 : List Int) : Option ((Int × Unit) × Unit × Unit × Unit) := open Classical in if GoodL x0 ∧ x1.length ≤ 200 ∧ ∀ k, k ∈ x1 → 0 ≤ k ∧ k < (x0.length : Int) then some ((mkZ x0 x1, ()), ((), (), ())) else none
theorem ok_etchhouseref10_makespan (x0 : List Lot) (x1 : List Int) (hok : OkA I_etchhouseref10_makespan.args (x0, x1, ())) (r) (h : S_mkO_etchhouseref10_makespan x0 x1 = some r) : ∃ n, bodyE ty T_etchhouseref10_makespan n I_etchhouseref10_makespan (x0, x1, ()) = some r := ⟨x1.length + 1, by
  rw [B_etchhouseref10_makespan_eq, ← h]
  by_cases hg : GoodL x0 ∧ x1.length ≤ 200 ∧ ∀ k, k ∈ x1 → 0 ≤ k ∧ k < (x0.length : Int)
  case neg => unfold S_mkO_etchhouseref10_makespan at h; rw [if_neg hg] at h; cases h
  have hS : S_mkO_etchhouseref10_makespan x0 x1 = some ((mkZ x0 x1, ()), ((), (), ())) := by unfold S_mkO_etchhouseref10_makespan; rw [if_pos hg]
  rw [hS]
  obtain ⟨hG, hlen, hat⟩ := hg
  unfold B_etchhouseref10_makespan
  refine loop_meas (fun x => ∃ i : Nat, i ≤ x1.length ∧ x = (((mkS x0 (x1.take i)).1, ((mkS x0 (x1.take i)).2, ((i : Int), ()))), ())) (fun x => x1.length - x.1.2.2.1.toNat) _ ?_ (x1.length + 1) _ ⟨0, Nat.zero_le _, by rw [List.take_zero]; rfl⟩ (by show x1.length - (0 : Int).toNat < _; omega)
  rintro _ ⟨i, h1, rfl⟩
  by_cases hi : i < x1.length
  · right
    have hk := hat _ (List.getElem_mem hi)
    have htk : x1.take (i + 1) = x1.take i ++ [x1[i]] := by rw [List.take_add_one, List.getElem?_eq_getElem hi]; rfl
    have hb := mk_bound hG (x1.take i)
    have hb2 := mk_bound hG (x1.take (i + 1))
    rw [List.length_take, Nat.min_eq_left h1] at hb
    obtain ⟨⟨a1, a2⟩, b1, b2⟩ := hG.get x1[i].toNat
    have i1 : wrapI .i64 (((i : Nat) : Int) + 1) = ((i + 1 : Nat) : Int) := (wrap64 (by omega) (by omega)).trans (by omega)
    have w1 : wrapI .i64 ((mkS x0 (x1.take i)).1 + (x0.getD x1[i].toNat lot0).2.1) = (mkS x0 (x1.take i)).1 + (x0.getD x1[i].toNat lot0).2.1 := wrap64 (by omega) (by omega)
    have hm := maxZ_le (a := (mkS x0 (x1.take i)).1 + (x0.getD x1[i].toNat lot0).2.1) (b := (mkS x0 (x1.take i)).2)
    refine ⟨_, ⟨i + 1, hi, rfl⟩, ?_, fun rec => ?_⟩
    · show x1.length - (((i + 1 : Nat) : Int)).toNat < x1.length - ((i : Int)).toNat
      rw [Int.toNat_natCast, Int.toNat_natCast]; omega
    · rw [htk, mkS_snoc]
      simp only [lt_nat hi, inB_nat hi, getD_at hi, inB_int hk.1 hk.2, i1, cond_true, Int.toNat_natCast]
      change rec ((wrapI .i64 ((mkS x0 (x1.take i)).1 + (x0.getD x1[i].toNat lot0).2.1), (wrapI .i64 ((bif decide (wrapI .i64 ((mkS x0 (x1.take i)).1 + (x0.getD x1[i].toNat lot0).2.1) < (mkS x0 (x1.take i)).2) then (mkS x0 (x1.take i)).2 else wrapI .i64 ((mkS x0 (x1.take i)).1 + (x0.getD x1[i].toNat lot0).2.1)) + (x0.getD x1[i].toNat lot0).2.2.1), (((i + 1 : Nat) : Int), ()))), ()) = _
      rw [w1]
      have e : (bif decide ((mkS x0 (x1.take i)).1 + (x0.getD x1[i].toNat lot0).2.1 < (mkS x0 (x1.take i)).2) then (mkS x0 (x1.take i)).2 else (mkS x0 (x1.take i)).1 + (x0.getD x1[i].toNat lot0).2.1) = maxZ ((mkS x0 (x1.take i)).1 + (x0.getD x1[i].toNat lot0).2.1) (mkS x0 (x1.take i)).2 := by
        unfold maxZ
        split
        · rename_i h; rw [decide_eq_true h]; rfl
        · rename_i h; rw [decide_eq_false h]; rfl
      rw [e, wrap64 (n := maxZ _ _ + _) (by omega) (by omega)]
      rfl
  · left
    intro rec
    obtain rfl : i = x1.length := by omega
    rw [List.take_length]
    simp only [lt_self, cond_false]
    rfl⟩
noncomputable def E_etchhouseref10_makespan : Entry Try.prog := Entry.of tok T_etchhouseref10_makespan I_etchhouseref10_makespan it_etchhouseref10_makespan (fun (x0, x1, ()) => S_mkO_etchhouseref10_makespan x0 x1) (fun (x0, x1, ()) r hok h => ok_etchhouseref10_makespan x0 x1 hok r h)

end Go.Proofs.Yteepfoiiidpchaa
namespace Go.Proofs.Yteepfoiiidpchaa
open Go Go.VM
/-! ### etchhouse.etchhouseref10.Makespan -/
noncomputable def I_etchhouseref10_Makespan : Inst := ⟨13, Try.f13, .two (.reg []) (.two (.two (.reg [(1, 0)]) (.two (.reg []) (.two (.two (.reg []) (.leaf)) (.leaf)))) (.two (.two (.reg [(3, 1)]) (.two (.two (.reg []) (.leaf)) (.leaf))) (.two (.reg [(2, 2)]) (.leaf)))), (.cons (.pv (.sl (.pair .str (.pair i (.pair i .unit))))) (.cons (.pv (.sl i)) .nil)), (.cons .flat i (.cons .flat i .nil))⟩
theorem it_etchhouseref10_Makespan : InTab Try.prog I_etchhouseref10_Makespan := ⟨Try.func13, by kernel_rfl, rfl⟩
noncomputable def T_etchhouseref10_Makespan : Nat → Entry Try.prog := nth (Entry.no Try.f0) [E_etchhouseref10_checkBatches, E_etchhouseref10_IsOrder, E_etchhouseref10_makespan]
noncomputable def B_etchhouseref10_Makespan (x0 : List (ByteArray × (Int × (Int × Unit)))) (x1 : List Int) : Option (((Int × (Int × Unit)) × (Unit × (Unit × Unit)))) :=
  (bif (!(decide ((S_lots x0 200 = 0)))) then
    some ((0, (S_lots x0 200, ())), ((), ((), ())))
  else
    ((S_isOrdO_etchhouseref10_IsOrder x1 ((x0.length : Nat) : Int)).bind fun ((r1aa, ()), ((), ((), ()))) =>
    (bif (!r1aa) then
      some ((0, (3, ())), ((), ((), ())))
    else
      ((S_mkO_etchhouseref10_makespan x0 x1).bind fun ((r2aa, ()), ((), ((), ()))) =>
      some ((r2aa, (0, ())), ((), ((), ())))))))
theorem B_etchhouseref10_Makespan_eq (n : Nat) (x0 : List (ByteArray × (Int × (Int × Unit)))) (x1 : List Int) : bodyE ty T_etchhouseref10_Makespan n I_etchhouseref10_Makespan (x0, (x1, ())) = B_etchhouseref10_Makespan x0 x1 := by kernel_rfl

end Go.Proofs.Yteepfoiiidpchaa
namespace Go.Proofs.Yteepfoiiidpchaa
open Go Go.VM
noncomputable def E_etchhouseref10_Makespan : Entry Try.prog := Entry.of tok T_etchhouseref10_Makespan I_etchhouseref10_Makespan it_etchhouseref10_Makespan (fun x => B_etchhouseref10_Makespan x.1 x.2.1) (fun (a0, a1, ()) r _ h => ⟨0, (B_etchhouseref10_Makespan_eq 0 a0 a1).trans h⟩)

end Go.Proofs.Yteepfoiiidpchaa
namespace Go.Proofs.Yteepfoiiidpchaa
open Go Go.VM
/-! ### slices.Clone[[]int,int] -/
noncomputable def I_slices_Clone_int_int : Inst := ⟨32, Try.f32, .two (.reg []) (.two (.two (.reg []) (.two (.two (.reg []) (.leaf)) (.leaf))) (.two (.reg []) (.leaf))), (.cons (.pv (.sl i)) .nil), (.cons (.own .flat) (.sl i) .nil)⟩
theorem it_slices_Clone_int_int : InTab Try.prog I_slices_Clone_int_int := ⟨Try.func32, by kernel_rfl, rfl⟩
noncomputable def T_slices_Clone_int_int : Nat → Entry Try.prog := nth (Entry.no Try.f0) []
noncomputable def B_slices_Clone_int_int (x0 : List Int) : Option (((List Int × Unit) × (Unit × Unit))) :=
  (bif x0.isEmpty then
    unk (fun b1 =>
      (bif b1 then
        some (([], ()), ((), ()))
      else
        (bif decide (((0 + x0.length) ≤ 4294967296)) then
          some ((x0, ()), ((), ()))
        else
          none)))
  else
    (bif decide (((0 + x0.length) ≤ 4294967296)) then
      some ((x0, ()), ((), ()))
    else
      none))
theorem B_slices_Clone_int_int_eq (n : Nat) (x0 : List Int) : bodyE ty T_slices_Clone_int_int n I_slices_Clone_int_int (x0, ()) = B_slices_Clone_int_int x0 := by kernel_rfl

end Go.Proofs.Yteepfoiiidpchaa
namespace Go.Proofs.Yteepfoiiidpchaa
open Go Go.VM
theorem ok_slices_Clone_int_int (x0 : List Int) (hok : OkA I_slices_Clone_int_int.args (x0, ())) (r) (h : (bif decide (x0.length ≤ 4294967296) then some ((x0, ()), ((), ())) else none) = some r) : ∃ n, bodyE ty T_slices_Clone_int_int n I_slices_Clone_int_int (x0, ()) = some r := ⟨0, by
  refine (B_slices_Clone_int_int_eq 0 x0).trans (Eq.trans ?_ h)
  unfold B_slices_Clone_int_int
  cases x0 with
  | nil =>
    simp only [List.isEmpty_nil, cond_true]
    unfold unk
    exact if_pos rfl
  | cons a l => rw [Nat.zero_add]; rfl⟩
noncomputable def E_slices_Clone_int_int : Entry Try.prog := Entry.of tok T_slices_Clone_int_int I_slices_Clone_int_int it_slices_Clone_int_int (fun (x0, ()) => bif decide (x0.length ≤ 4294967296) then some ((x0, ()), ((), ())) else none) (fun (x0, ()) r hok h => ok_slices_Clone_int_int x0 hok r h)

end Go.Proofs.Yteepfoiiidpchaa
namespace Go.Proofs.Yteepfoiiidpchaa
open Go Go.VM
/-! ### etchhouse.mount.Best$1 -/
noncomputable def I_mount_Best_1_io_io_io : Inst := ⟨31, Try.f31, .two (.reg [(2, 0)]) (.two (.reg []) (.two (.reg [(1, 1)]) (.leaf))), (.cons (.pv (.sl i)) (.cons (.io .flat (.sl (.pair .str (.pair i (.pair i .unit))))) (.cons (.io .flat i) (.cons (.io (.own .flat) (.sl i)) .nil)))), .nil⟩
theorem it_mount_Best_1_io_io_io : InTab Try.prog I_mount_Best_1_io_io_io := ⟨Try.func31, by kernel_rfl, rfl⟩
noncomputable def T_mount_Best_1_io_io_io : Nat → Entry Try.prog := nth (Entry.no Try.f0) [E_mount_makespan, E_slices_Clone_int_int]
noncomputable def B_mount_Best_1_io_io_io (x0 : List Int) (x1 : List (ByteArray × (Int × (Int × Unit)))) (x2 : Int) (x3 : List Int) : Option ((Unit × (Unit × (List (ByteArray × (Int × (Int × Unit))) × (Int × (List Int × Unit)))))) :=
  ((S_mkO_mount_makespan x1 x0).bind fun ((r1aa, ()), ((), ((), ()))) =>
  (bif decide ((x2 < 0)) then
    (((bif decide ((x0.length ≤ 4294967296)) then
        some ((x0, ()), ((), ()))
      else
        none)).bind fun ((r2aa, ()), ((), ())) =>
    some ((), ((), (x1, (r1aa, (r2aa, ()))))))
  else
    (bif decide ((r1aa < x2)) then
      (((bif decide ((x0.length ≤ 4294967296)) then
          some ((x0, ()), ((), ()))
        else
          none)).bind fun ((r3aa, ()), ((), ())) =>
      some ((), ((), (x1, (r1aa, (r3aa, ()))))))
    else
      some ((), ((), (x1, (x2, (x3, ()))))))))
theorem B_mount_Best_1_io_io_io_eq (n : Nat) (x0 : List Int) (x1 : List (ByteArray × (Int × (Int × Unit)))) (x2 : Int) (x3 : List Int) : bodyE ty T_mount_Best_1_io_io_io n I_mount_Best_1_io_io_io (x0, (x1, (x2, (x3, ())))) = B_mount_Best_1_io_io_io x0 x1 x2 x3 := by kernel_rfl

end Go.Proofs.Yteepfoiiidpchaa
namespace Go.Proofs.Yteepfoiiidpchaa
open Go Go.VM
noncomputable def E_mount_Best_1_io_io_io : Entry Try.prog := Entry.of tok T_mount_Best_1_io_io_io I_mount_Best_1_io_io_io it_mount_Best_1_io_io_io (fun x => B_mount_Best_1_io_io_io x.1 x.2.1 x.2.2.1 x.2.2.2.1) (fun (a0, a1, a2, a3, ()) r _ h => ⟨0, (B_mount_Best_1_io_io_io_eq 0 a0 a1 a2 a3).trans h⟩)

end Go.Proofs.Yteepfoiiidpchaa
namespace Go.Proofs.Yteepfoiiidpchaa
open Go Go.VM
/-! ### slices.Index[[]int,int] -/
noncomputable def I_slices_Index_int_int : Inst := ⟨23, Try.f23, .two (.reg []) (.two (.two (.reg []) (.one (.loop ⟨[(8, .pv i)], [], [0, 1, 7], []⟩ (.two (.reg []) (.two (.two (.leaf) (.leaf)) (.two (.one (.two (.reg []) (.two (.reg []) (.two (.two (.reg []) (.leaf)) (.leaf))))) (.reg []))))))) (.two (.reg []) (.leaf))), (.cons (.pv (.sl i)) (.cons (.pv i) .nil)), (.cons .flat i .nil)⟩
theorem it_slices_Index_int_int : InTab Try.prog I_slices_Index_int_int := ⟨Try.func23, by kernel_rfl, rfl⟩
noncomputable def T_slices_Index_int_int : Nat → Entry Try.prog := nth (Entry.no Try.f0) []
noncomputable def B_slices_Index_int_int (n : Nat) (x0 : List Int) (x1 : Int) : Option (((Int × Unit) × (Unit × (Unit × Unit)))) :=
  loopN (fun rec1 => fun
  | ((v1aa, ()), ()) =>
    (bif decide ((v1aa < ((x0.length : Nat) : Int))) then
      (bif inB v1aa x0.length then
        (bif decide ((x1 = x0.getD v1aa.toNat (0 : Int))) then
          some ((v1aa, ()), ((), ((), ())))
        else
          rec1 ((wrapI .i64 (v1aa + 1), ()), ()))
      else
        none)
    else
      some (((-1), ()), ((), ((), ())))))
  n ((0, ()), ())
theorem B_slices_Index_int_int_eq (n : Nat) (x0 : List Int) (x1 : Int) : bodyE ty T_slices_Index_int_int n I_slices_Index_int_int (x0, (x1, ())) = B_slices_Index_int_int n x0 x1 := by kernel_rfl

end Go.Proofs.Yteepfoiiidpchaa
namespace Go.Proofs.Yteepfoiiidpchaa
open Go Go.VM
def S_idxI : List Int → Int → Nat → Int
  | [], _, _ => -1
  | a :: r, x, i => bif decide (x = a) then (i : Int) else S_idxI r x (i + 1)
theorem idxI_in : ∀ (l : List Int) (x : Int) (i : Nat), decide (0 ≤ S_idxI l x i) = decide (x ∈ l)
  | [], x, i => by simp [S_idxI]
  | a :: r, x, i => by
    have ih := idxI_in r x (i + 1)
    by_cases h : x = a
    · have : S_idxI (a :: r) x i = i := by simp only [S_idxI, decide_eq_true h, cond_true]
      rw [this]; simp [h]
    · have : S_idxI (a :: r) x i = S_idxI r x (i + 1) := by simp only [S_idxI, decide_eq_false h, cond_false]
      rw [this, ih]; simp [h]
theorem ok_slices_Index_int_int (x0 : List Int) (x1 : Int) (hok : OkA I_slices_Index_int_int.args (x0, x1, ())) : ∃ n, bodyE ty T_slices_Index_int_int n I_slices_Index_int_int (x0, x1, ()) = some ((S_idxI x0 x1 0, ()), ((), (), ())) := ⟨x0.length + 1, by
  obtain ⟨⟨hl, _⟩, _⟩ := hok
  rw [B_slices_Index_int_int_eq]
  unfold B_slices_Index_int_int
  refine (loop_list (l := x0) (fun i (_ : Unit) => ((i, ()), ())) (fun a i _ => bif decide (x1 = a) then .inr (some (((i : Int), ()), ((), (), ()))) else .inl ()) (fun _ => some ((-1, ()), ((), (), ()))) (fun i h s rec => ?_) (fun s rec => ?_) (Nat.lt_succ_self _) ()).trans ?_
  · simp only [lt_nat h, inB_nat h, getD_lt h, succ64 h hl, cond_true]
    cases decide (x1 = x0[i]) <;> rfl
  · simp only [lt_self, cond_false]
  · have : ∀ (l : List Int) i, goL (fun a i (_ : Unit) => bif decide (x1 = a) then .inr (some (((i : Int), ()), ((), (), ()))) else .inl ()) (fun _ => some (((-1 : Int), ()), ((), (), ()))) l i () = some ((S_idxI l x1 i, ()), ((), (), ())) := by
      intro l
      induction l with
      | nil => intro i; rfl
      | cons a r ih =>
        intro i
        simp only [goL, S_idxI]
        cases decide (x1 = a) with
        | false => simpa using ih (i + 1)
        | true => rfl
    exact this x0 0⟩
noncomputable def E_slices_Index_int_int : Entry Try.prog := Entry.of tok T_slices_Index_int_int I_slices_Index_int_int it_slices_Index_int_int (fun (x0, x1, ()) => some ((S_idxI x0 x1 0, ()), ((), (), ()))) (fun (x0, x1, ()) r hok h => by cases h; exact ok_slices_Index_int_int x0 x1 hok)

end Go.Proofs.Yteepfoiiidpchaa
namespace Go.Proofs.Yteepfoiiidpchaa
open Go Go.VM
/-! ### slices.Contains[[]int,int] -/
noncomputable def I_slices_Contains_int_int : Inst := ⟨11, Try.f11, .two (.reg []) (.two (.reg [(2, 0)]) (.leaf)), (.cons (.pv (.sl i)) (.cons (.pv i) .nil)), (.cons .flat .bool .nil)⟩
theorem it_slices_Contains_int_int : InTab Try.prog I_slices_Contains_int_int := ⟨Try.func11, by kernel_rfl, rfl⟩
noncomputable def T_slices_Contains_int_int : Nat → Entry Try.prog := nth (Entry.no Try.f0) [E_slices_Index_int_int]
noncomputable def B_slices_Contains_int_int (x0 : List Int) (x1 : Int) : Option (((Bool × Unit) × (Unit × (Unit × Unit)))) :=
  some ((decide ((0 ≤ S_idxI x0 x1 0)), ()), ((), ((), ())))
theorem B_slices_Contains_int_int_eq (n : Nat) (x0 : List Int) (x1 : Int) : bodyE ty T_slices_Contains_int_int n I_slices_Contains_int_int (x0, (x1, ())) = B_slices_Contains_int_int x0 x1 := by kernel_rfl

end Go.Proofs.Yteepfoiiidpchaa
namespace Go.Proofs.Yteepfoiiidpchaa
open Go Go.VM
def S_hasI (l : List Int) (p : Int) : Bool := decide (p ∈ l)
theorem ok_slices_Contains_int_int (x0 : List Int) (x1 : Int) (hok : OkA I_slices_Contains_int_int.args (x0, x1, ())) : ∃ n, bodyE ty T_slices_Contains_int_int n I_slices_Contains_int_int (x0, x1, ()) = some ((S_hasI x0 x1, ()), ((), (), ())) := ⟨0, by
  rw [B_slices_Contains_int_int_eq]; unfold B_slices_Contains_int_int; rw [idxI_in]; rfl⟩
noncomputable def E_slices_Contains_int_int : Entry Try.prog := Entry.of tok T_slices_Contains_int_int I_slices_Contains_int_int it_slices_Contains_int_int (fun (x0, x1, ()) => some ((S_hasI x0 x1, ()), ((), (), ()))) (fun (x0, x1, ()) r hok h => by cases h; exact ok_slices_Contains_int_int x0 x1 hok)

end Go.Proofs.Yteepfoiiidpchaa
namespace Go.Proofs.Yteepfoiiidpchaa
open Go Go.VM
/-! ### etchhouse.mount.orders -/
noncomputable def I_mount_orders_of_mount_Best_1 : Inst := ⟨30, Try.f30, .two (.two (.reg []) (.two (.two (.reg [(2, 0)]) (.leaf)) (.leaf))) (.two (.reg []) (.one (.loop ⟨[(15, .pv i)], [(1020, ⟨.flat, (.sl (.pair .str (.pair i (.pair i .unit)))), true, true⟩), (1021, ⟨.flat, i, true, true⟩), (1022, ⟨(.own .flat), (.sl i), true, true⟩)], [0, 1, 2, 14], []⟩ (.two (.reg []) (.two (.two (.leaf) (.leaf)) (.two (.one (.two (.reg []) (.two (.reg [(2, 1)]) (.two (.reg [(1, 2), (7, 3)]) (.leaf))))) (.reg []))))))), (.cons (.pv (.sl i)) (.cons (.pv i) (.cons (.fn 31 (.cons (.io .flat (.sl (.pair .str (.pair i (.pair i .unit))))) (.cons (.io .flat i) (.cons (.io (.own .flat) (.sl i)) .nil)))) .nil))), .nil⟩
theorem it_mount_orders_of_mount_Best_1 : InTab Try.prog I_mount_orders_of_mount_Best_1 := ⟨Try.func30, by kernel_rfl, rfl⟩
noncomputable def T_mount_orders_of_mount_Best_1 (F : I_mount_orders_of_mount_Best_1.args.den → Option I_mount_orders_of_mount_Best_1.res) (ok : ∀ x r, F x = some r → RunOK Try.prog I_mount_orders_of_mount_Best_1 x r) : Nat → Entry Try.prog := nth (Entry.no Try.f0) [E_mount_Best_1_io_io_io, E_slices_Contains_int_int, E_slices_Clone_int_int, Entry.self I_mount_orders_of_mount_Best_1 F ok]
noncomputable def B_mount_orders_of_mount_Best_1 (F : (List Int × (Int × ((List (ByteArray × (Int × (Int × Unit))) × (Int × (List Int × Unit))) × Unit))) → Option ((Unit × (Unit × (Unit × ((List (ByteArray × (Int × (Int × Unit))) × (Int × (List Int × Unit))) × Unit)))))) (n : Nat) (x0 : List Int) (x1 : Int) (x2 : (List (ByteArray × (Int × (Int × Unit))) × (Int × (List Int × Unit)))) : Option ((Unit × (Unit × (Unit × ((List (ByteArray × (Int × (Int × Unit))) × (Int × (List Int × Unit))) × Unit))))) :=
  (bif decide ((((x0.length : Nat) : Int) = x1)) then
    ((B_mount_Best_1_io_io_io x0 x2.1 x2.2.1 x2.2.2.1).bind fun ((), ((), (r1bba, (r1bbba, (r1bbbba, ()))))) =>
    some ((), ((), ((), ((r1bba, (r1bbba, (r1bbbba, ()))), ())))))
  else
    loopN (fun rec2 => fun
    | ((v2aa, ()), (v2ba, (v2bba, (v2bbba, ())))) =>
      (bif decide ((v2aa < x1)) then
        (bif (!(S_hasI x0 v2aa)) then
          (((bif decide ((x0.length ≤ 4294967296)) then
              some ((x0, ()), ((), ()))
            else
              none)).bind fun ((r3aa, ()), ((), ())) =>
          (bif decide (((r3aa.length + 1) ≤ 4294967296)) then
            ((F ((r3aa ++ [v2aa]), (x1, ((v2ba, (v2bba, (v2bbba, ()))), ())))).bind fun ((), ((), ((), ((r4bbbaa, (r4bbbaba, (r4bbbabba, ()))), ())))) =>
            rec2 ((wrapI .i64 (v2aa + 1), ()), (r4bbbaa, (r4bbbaba, (r4bbbabba, ())))))
          else
            none))
        else
          rec2 ((wrapI .i64 (v2aa + 1), ()), (v2ba, (v2bba, (v2bbba, ())))))
      else
        some ((), ((), ((), ((v2ba, (v2bba, (v2bbba, ()))), ()))))))
    n ((0, ()), (x2.1, (x2.2.1, (x2.2.2.1, ())))))
theorem B_mount_orders_of_mount_Best_1_eq (F : I_mount_orders_of_mount_Best_1.args.den → Option I_mount_orders_of_mount_Best_1.res) (ok) (n : Nat) (x0 : List Int) (x1 : Int) (x2 : (List (ByteArray × (Int × (Int × Unit))) × (Int × (List Int × Unit)))) : bodyE ty (T_mount_orders_of_mount_Best_1 F ok) n I_mount_orders_of_mount_Best_1 (x0, (x1, (x2, ()))) = B_mount_orders_of_mount_Best_1 F n x0 x1 x2 := by kernel_rfl

end Go.Proofs.Yteepfoiiidpchaa
namespace Go.Proofs.Yteepfoiiidpchaa
open Go Go.VM
abbrev CapM := List Lot × Int × List Int × Unit
noncomputable def resO (b : List Int) (c : CapM) : CapM := (c.1, ((updM c.2.2.1 c.2.1 (optM c.1 (c.1.length - b.length) b)).2, ((updM c.2.2.1 c.2.1 (optM c.1 (c.1.length - b.length) b)).1, ())))
noncomputable def S_orD (d : Nat) (x : List Int × Int × CapM × Unit) : Option (Unit × Unit × Unit × CapM × Unit) := open Classical in if (OnWay x.2.2.1.1 x.1 ∧ x.2.1 = (x.2.2.1.1.length : Int)) ∧ x.2.2.1.1.length - x.1.length < d then some ((), ((), ((), (resO x.1 x.2.2.1, ())))) else none
noncomputable def S_orF (x : List Int × Int × CapM × Unit) : Option (Unit × Unit × Unit × CapM × Unit) := open Classical in if OnWay x.2.2.1.1 x.1 ∧ x.2.1 = (x.2.2.1.1.length : Int) then some ((), ((), ((), (resO x.1 x.2.2.1, ())))) else none
theorem hasI_Bo (z : List Int) (k : Int) : S_hasI z k = hasB z k := by
  rw [Bool.eq_iff_iff, hasB_iff]
  unfold S_hasI
  rw [decide_eq_true_eq]
theorem see_is {l : List Lot} {b : List Int} (hw : OnWay l b) (least : Int) (best : List Int) : B_mount_Best_1_io_io_io b l least best = some ((), ((), (l, ((updM best least (mkZ l b, b)).2, ((updM best least (mkZ l b, b)).1, ()))))) := by
  have hlen := hw.len
  have h8 := hw.few
  have hmk : S_mkO_mount_makespan l b = some ((mkZ l b, ()), ((), ((), ()))) := by
    unfold S_mkO_mount_makespan
    rw [if_pos ⟨hw.good, by omega, hw.at_⟩]
  have d2 : decide (b.length ≤ 4294967296) = true := decide_eq_true (by omega)
  unfold B_mount_Best_1_io_io_io updM
  rw [hmk, d2]
  simp only [Option.bind_some, cond_true]
  by_cases h0 : least < 0
  · rw [decide_eq_true h0, if_pos (.inl h0)]; rfl
  · rw [decide_eq_false h0, cond_false]
    by_cases h1 : mkZ l b < least
    · rw [decide_eq_true h1, if_pos (.inr h1)]; rfl
    · rw [decide_eq_false h1, if_neg (by omega)]; rfl
theorem or_step1 (d : Nat) (ok : ∀ x r, S_orD d x = some r → RunOK Try.prog I_mount_orders_of_mount_Best_1 x r) (b : List Int) (n : Int) (l : List Lot) (least : Int) (best : List Int) (r) (h : S_orD (d + 1) (b, n, (l, least, best, ()), ()) = some r) : ∃ n', bodyE ty (T_mount_orders_of_mount_Best_1 (S_orD d) ok) n' I_mount_orders_of_mount_Best_1 (b, n, (l, least, best, ()), ()) = some r := by
  by_cases hg : (OnWay l b ∧ n = (l.length : Int)) ∧ l.length - b.length < d + 1
  case neg => unfold S_orD at h; rw [if_neg hg] at h; cases h
  have hS : S_orD (d + 1) (b, n, (l, least, best, ()), ()) = some ((), ((), ((), (resO b (l, least, best, ()), ())))) := by unfold S_orD; rw [if_pos hg]
  obtain ⟨⟨hw, rfl⟩, hdep⟩ := hg
  have hlen := hw.len
  have h8 := hw.few
  obtain ⟨N, hN⟩ : ∃ N, N = l.length + 1 := ⟨_, rfl⟩
  refine ⟨N, ?_⟩
  refine (B_mount_orders_of_mount_Best_1_eq (S_orD d) ok N b (l.length : Int) (l, least, best, ())).trans ?_
  rw [← h, hS]
  unfold B_mount_orders_of_mount_Best_1
  obtain ⟨f, hf⟩ : ∃ f, f = l.length - b.length := ⟨_, rfl⟩
  unfold resO
  simp only [← hf]
  by_cases hz : f = 0
  · have d1 : decide (((b.length : Nat) : Int) = ((l.length : Nat) : Int)) = true := decide_eq_true (by omega)
    simp only [d1, cond_true, see_is hw, Option.bind_some]
    rw [hz]
    rfl
  · have d1 : decide (((b.length : Nat) : Int) = ((l.length : Nat) : Int)) = false := decide_eq_false (by omega)
    simp only [d1, cond_false]
    obtain ⟨g, hg⟩ : ∃ g, f = g + 1 := ⟨f - 1, by omega⟩
    refine loop_meas (fun x => ∃ k : Nat, k ≤ l.length ∧ x = (((k : Int), ()), (l, ((updMA best least (foldN (candM (optM l g) b) k 0 none)).2, ((updMA best least (foldN (candM (optM l g) b) k 0 none)).1, ()))))) (fun x => l.length - x.1.1.toNat) _ ?_ N _ ⟨0, Nat.zero_le _, rfl⟩ (by show l.length - (0 : Int).toNat < N; omega)
    rintro _ ⟨k, k1, rfl⟩
    by_cases hk : k < l.length
    · right
      have k2 : wrapI .i64 (((k : Nat) : Int) + 1) = ((k + 1 : Nat) : Int) := (wrap64 (by omega) (by omega)).trans (by omega)
      refine ⟨_, ⟨k + 1, hk, rfl⟩, ?_, fun rec3 => ?_⟩
      · show l.length - (((k + 1 : Nat) : Int)).toNat < l.length - ((k : Int)).toNat
        rw [Int.toNat_natCast, Int.toNat_natCast]; omega
      · rw [foldN_snoc, Nat.zero_add]
        have hci := candM_inv (optM l g) b k
        obtain ⟨acc, hacc⟩ : ∃ acc, acc = foldN (candM (optM l g) b) k 0 none := ⟨_, rfl⟩
        rw [← hacc] at hci ⊢
        simp only [lt_nat hk, k2, cond_true, Int.toNat_natCast, hasI_Bo]
        unfold candM
        cases hu : hasB b k with
        | true => rfl
        | false =>
          have hw2 := hw.snoc hk hu
          have j1 : decide (b.length ≤ 4294967296) = true := decide_eq_true (by omega)
          have j2 : decide (b.length + 1 ≤ 4294967296) = true := decide_eq_true (by omega)
          have hl2 : (b ++ [(k : Int)]).length = b.length + 1 := by simp
          have hF : S_orD d (b ++ [(k : Int)], ((l.length : Int), ((l, ((updMA best least acc).2, ((updMA best least acc).1, ()))), ()))) = some ((), ((), ((), (resO (b ++ [(k : Int)]) (l, ((updMA best least acc).2, ((updMA best least acc).1, ()))), ())))) := by
            unfold S_orD
            rw [if_pos ⟨⟨hw2, rfl⟩, by simp only; omega⟩]
          have ha : ∀ w, acc = some w → 0 ≤ w.1 := fun w e => by
            rcases hci with ⟨e2, _⟩ | ⟨m, m1, m2, e2⟩
            · rw [e2] at e; cases e
            · rw [e2] at e; cases e
              exact (optM_nn (hw.snoc (show m < l.length by omega) m2) (by rw [List.length_append]; simp; omega)).1
          have hst := updM_step (best := best) (most := least) (v := optM l g (b ++ [(k : Int)])) ha
          have q5 : l.length - (b ++ [(k : Int)]).length = g := by omega
          simp only [j1, j2, hF, cond_true, cond_false, Option.bind_some, resO, q5, Bool.not_false]
          rw [hst]
    · left
      intro rec3
      obtain rfl : k = l.length := by omega
      have e : foldN (candM (optM l g) b) l.length 0 none = some (optM l f b) := by
        rcases candM_inv (optM l g) b l.length with ⟨_, h2⟩ | ⟨m, m1, m2, e2⟩
        · have := pigeon l.length b h2; omega
        · rw [e2, hg, optM, e2]; rfl
      rw [e]
      simp only [lt_self, cond_false]
      rfl
theorem or_step (d : Nat) (ok : ∀ x r, S_orD d x = some r → RunOK Try.prog I_mount_orders_of_mount_Best_1 x r) : ∀ x r, OkA I_mount_orders_of_mount_Best_1.args x → S_orD (d + 1) x = some r → ∃ n, bodyE ty (T_mount_orders_of_mount_Best_1 (S_orD d) ok) n I_mount_orders_of_mount_Best_1 x = some r := by
  rintro ⟨b, n, ⟨l, least, best, ⟨⟩⟩, ⟨⟩⟩ r _ h
  exact or_step1 d ok b n l least best r h
noncomputable def E_mount_orders_of_mount_Best_1 : Entry Try.prog := Entry.deep tok it_mount_orders_of_mount_Best_1 (fun F ok => T_mount_orders_of_mount_Best_1 F ok) S_orD (fun x => if_neg (fun c => Nat.not_lt_zero _ c.2)) or_step S_orF (fun x r h => ⟨x.2.2.1.1.length - x.1.length + 1, by
  unfold S_orF at h
  unfold S_orD
  split at h
  · rename_i hg
    rw [if_pos ⟨hg, Nat.lt_succ_self _⟩]; exact h
  · cases h⟩)

end Go.Proofs.Yteepfoiiidpchaa
namespace Go.Proofs.Yteepfoiiidpchaa
open Go Go.VM
/-! ### etchhouse.mount.Best -/
noncomputable def I_mount_Best : Inst := ⟨14, Try.f14, .two (.reg []) (.two (.two (.reg [(1, 0)]) (.two (.reg []) (.two (.two (.reg []) (.leaf)) (.leaf)))) (.two (.reg []) (.two (.reg []) (.two (.reg [(3, 1)]) (.two (.draw [] [0, 1, 2, 3, 4] [6, 7, 2]) (.leaf)))))), (.cons (.pv (.sl (.pair .str (.pair i (.pair i .unit))))) .nil), (.cons (.own .flat) (.sl i) (.cons .flat i (.cons .flat i .nil)))⟩
theorem it_mount_Best : InTab Try.prog I_mount_Best := ⟨Try.func14, by kernel_rfl, rfl⟩
noncomputable def T_mount_Best : Nat → Entry Try.prog := nth (Entry.no Try.f0) [E_mount_checkLots, E_mount_orders_of_mount_Best_1]
noncomputable def B_mount_Best (x0 : List (ByteArray × (Int × (Int × Unit)))) : Option (((List Int × (Int × (Int × Unit))) × (Unit × Unit))) :=
  (bif (!(decide ((S_lots x0 8 = 0)))) then
    some (([], (0, (S_lots x0 8, ()))), ((), ()))
  else
    ((S_orF ([], (((x0.length : Nat) : Int), ((x0, ((-1), ([], ()))), ())))).bind fun ((), ((), ((), ((r1bbbaa, (r1bbbaba, (r1bbbabba, ()))), ())))) =>
    some ((r1bbbabba, (r1bbbaba, (0, ()))), ((), ()))))
theorem B_mount_Best_eq (n : Nat) (x0 : List (ByteArray × (Int × (Int × Unit)))) : bodyE ty T_mount_Best n I_mount_Best (x0, ()) = B_mount_Best x0 := by kernel_rfl

end Go.Proofs.Yteepfoiiidpchaa
namespace Go.Proofs.Yteepfoiiidpchaa
open Go Go.VM
noncomputable def E_mount_Best : Entry Try.prog := Entry.of tok T_mount_Best I_mount_Best it_mount_Best (fun x => B_mount_Best x.1) (fun (a0, ()) r _ h => ⟨0, (B_mount_Best_eq 0 a0).trans h⟩)

end Go.Proofs.Yteepfoiiidpchaa
namespace Go.Proofs.Yteepfoiiidpchaa
open Go Go.VM
/-! ### (*etchhouse.etchhouseref10.search).goOn -/
noncomputable def I_etchhouseref10_search_goOn_io : Inst := ⟨33, Try.f33, .two (.two (.draw [(8, 0)] [0, 1, 2, 3, 4, 5, 6, 7, 8, 9] [1000]) (.two (.reg []) (.two (.leaf) (.leaf)))) (.two (.two (.draw [] [0, 1, 2, 3, 4, 5, 6, 7, 8, 9, 10] [1000]) (.two (.two (.draw [(6, 1), (15, 0)] [0, 1, 2, 3, 4, 5, 7, 8, 9, 10, 11, 12, 13, 14, 6, 15, 16, 17, 18, 19, 20, 21] [1000]) (.leaf)) (.leaf))) (.two (.reg []) (.one (.loop ⟨[(62, .pv i)], [(1000, ⟨(.pr .flat (.pr (.own .flat) (.pr (.own .flat) .flat))), (.pair (.sl (.pair .str (.pair i (.pair i .unit)))) (.pair (.sl i) (.pair (.sl i) (.pair i .unit)))), true, true⟩)], [0, 61], []⟩ (.two (.reg []) (.two (.two (.leaf) (.leaf)) (.two (.one (.two (.reg []) (.two (.two (.reg [(5, 2)]) (.two (.leaf) (.leaf))) (.two (.reg []) (.two (.reg [(1, 3)]) (.draw [] [0, 1, 2, 3, 4, 5, 6, 7, 8, 9, 10, 11, 12, 13, 14] [1000])))))) (.reg [])))))))), (.cons (.io (.pr .flat (.pr (.own .flat) (.pr (.own .flat) .flat))) (.pair (.sl (.pair .str (.pair i (.pair i .unit)))) (.pair (.sl i) (.pair (.sl i) (.pair i .unit))))) .nil), .nil⟩
theorem it_etchhouseref10_search_goOn_io : InTab Try.prog I_etchhouseref10_search_goOn_io := ⟨Try.func33, by kernel_rfl, rfl⟩
noncomputable def T_etchhouseref10_search_goOn_io (F : I_etchhouseref10_search_goOn_io.args.den → Option I_etchhouseref10_search_goOn_io.res) (ok : ∀ x r, F x = some r → RunOK Try.prog I_etchhouseref10_search_goOn_io x r) : Nat → Entry Try.prog := nth (Entry.no Try.f0) [E_etchhouseref10_makespan, E_slices_Clone_int_int, E_slices_Contains_int_int, Entry.self I_etchhouseref10_search_goOn_io F ok]
noncomputable def B_etchhouseref10_search_goOn_io (F : ((List (ByteArray × (Int × (Int × Unit))) × (List Int × (List Int × (Int × Unit)))) × Unit) → Option ((Unit × ((List (ByteArray × (Int × (Int × Unit))) × (List Int × (List Int × (Int × Unit)))) × Unit)))) (n : Nat) (x0 : (List (ByteArray × (Int × (Int × Unit))) × (List Int × (List Int × (Int × Unit))))) : Option ((Unit × ((List (ByteArray × (Int × (Int × Unit))) × (List Int × (List Int × (Int × Unit)))) × Unit))) :=
  ((S_mkO_etchhouseref10_makespan x0.1 x0.2.1).bind fun ((r1aa, ()), ((), ((), ()))) =>
  (bif decide ((0 ≤ x0.2.2.2.1)) then
    (bif decide ((x0.2.2.2.1 ≤ r1aa)) then
      some ((), (x0, ()))
    else
      (bif decide ((((x0.2.1.length : Nat) : Int) = ((x0.1.length : Nat) : Int))) then
        (((bif decide ((x0.2.1.length ≤ 4294967296)) then
            some ((x0.2.1, ()), ((), ()))
          else
            none)).bind fun ((r2aa, ()), ((), ())) =>
        ((S_mkO_etchhouseref10_makespan x0.1 x0.2.1).bind fun ((r3aa, ()), ((), ((), ()))) =>
        some ((), ((x0.1, (x0.2.1, (r2aa, (r3aa, x0.2.2.2.2)))), ()))))
      else
        loopN (fun rec4 => fun
        | ((v4aa, ()), ((v4baa, (v4baba, (v4babba, (v4babbba, ())))), ())) =>
          (bif decide ((v4aa < ((x0.1.length : Nat) : Int))) then
            (bif S_hasI v4baba v4aa then
              rec4 ((wrapI .i64 (v4aa + 1), ()), ((v4baa, (v4baba, (v4babba, (v4babbba, ())))), ()))
            else
              (bif decide (((v4baba.length + 1) ≤ 4294967296)) then
                ((F ((v4baa, ((v4baba ++ [v4aa]), (v4babba, (v4babbba, ())))), ())).bind fun ((), ((r5baa, (r5baba, (r5babba, (r5babbba, ())))), ())) =>
                (bif (decide ((0 ≤ wrapI .i64 (((r5baba.length : Nat) : Int) - 1))) && decide ((wrapI .i64 (((r5baba.length : Nat) : Int) - 1) ≤ ((r5baba.length : Nat) : Int)))) then
                  rec4 ((wrapI .i64 (v4aa + 1), ()), ((r5baa, ((r5baba.drop 0).take ((wrapI .i64 (((r5baba.length : Nat) : Int) - 1)).toNat - 0), (r5babba, (r5babbba, ())))), ()))
                else
                  none))
              else
                none))
          else
            some ((), ((v4baa, (v4baba, (v4babba, (v4babbba, ())))), ()))))
        n ((0, ()), (x0, ()))))
  else
    (bif decide ((((x0.2.1.length : Nat) : Int) = ((x0.1.length : Nat) : Int))) then
      (((bif decide ((x0.2.1.length ≤ 4294967296)) then
          some ((x0.2.1, ()), ((), ()))
        else
          none)).bind fun ((r6aa, ()), ((), ())) =>
      ((S_mkO_etchhouseref10_makespan x0.1 x0.2.1).bind fun ((r7aa, ()), ((), ((), ()))) =>
      some ((), ((x0.1, (x0.2.1, (r6aa, (r7aa, x0.2.2.2.2)))), ()))))
    else
      loopN (fun rec8 => fun
      | ((v8aa, ()), ((v8baa, (v8baba, (v8babba, (v8babbba, ())))), ())) =>
        (bif decide ((v8aa < ((x0.1.length : Nat) : Int))) then
          (bif S_hasI v8baba v8aa then
            rec8 ((wrapI .i64 (v8aa + 1), ()), ((v8baa, (v8baba, (v8babba, (v8babbba, ())))), ()))
          else
            (bif decide (((v8baba.length + 1) ≤ 4294967296)) then
              ((F ((v8baa, ((v8baba ++ [v8aa]), (v8babba, (v8babbba, ())))), ())).bind fun ((), ((r9baa, (r9baba, (r9babba, (r9babbba, ())))), ())) =>
              (bif (decide ((0 ≤ wrapI .i64 (((r9baba.length : Nat) : Int) - 1))) && decide ((wrapI .i64 (((r9baba.length : Nat) : Int) - 1) ≤ ((r9baba.length : Nat) : Int)))) then
                rec8 ((wrapI .i64 (v8aa + 1), ()), ((r9baa, ((r9baba.drop 0).take ((wrapI .i64 (((r9baba.length : Nat) : Int) - 1)).toNat - 0), (r9babba, (r9babbba, ())))), ()))
              else
                none))
            else
              none))
        else
          some ((), ((v8baa, (v8baba, (v8babba, (v8babbba, ())))), ()))))
      n ((0, ()), (x0, ())))))
theorem B_etchhouseref10_search_goOn_io_eq (F : I_etchhouseref10_search_goOn_io.args.den → Option I_etchhouseref10_search_goOn_io.res) (ok) (n : Nat) (x0 : (List (ByteArray × (Int × (Int × Unit))) × (List Int × (List Int × (Int × Unit))))) : bodyE ty (T_etchhouseref10_search_goOn_io F ok) n I_etchhouseref10_search_goOn_io (x0, ()) = B_etchhouseref10_search_goOn_io F n x0 := by kernel_rfl

end Go.Proofs.Yteepfoiiidpchaa
namespace Go.Proofs.Yteepfoiiidpchaa
open Go Go.VM
abbrev SeaM := List Lot × List Int × List Int × Int × Unit
noncomputable def resM (x : SeaM) : SeaM := (x.1, (x.2.1, ((updM x.2.2.1 x.2.2.2.1 (optM x.1 (x.1.length - x.2.1.length) x.2.1)).1, ((updM x.2.2.1 x.2.2.2.1 (optM x.1 (x.1.length - x.2.1.length) x.2.1)).2, ()))))
noncomputable def S_goD (d : Nat) (x : SeaM × Unit) : Option (Unit × SeaM × Unit) := open Classical in if OnWay x.1.1 x.1.2.1 ∧ x.1.1.length - x.1.2.1.length < d then some ((), (resM x.1, ())) else none
noncomputable def S_goF (x : SeaM × Unit) : Option (Unit × SeaM × Unit) := open Classical in if OnWay x.1.1 x.1.2.1 then some ((), (resM x.1, ())) else none
theorem hasI_B (z : List Int) (k : Int) : S_hasI z k = hasB z k := by
  rw [Bool.eq_iff_iff, hasB_iff]
  unfold S_hasI
  rw [decide_eq_true_eq]
theorem go_step1 (d : Nat) (ok : ∀ x r, S_goD d x = some r → RunOK Try.prog I_etchhouseref10_search_goOn_io x r) (l : List Lot) (now best : List Int) (most : Int) (r) (h : S_goD (d + 1) ((l, now, best, most, ()), ()) = some r) : ∃ n, bodyE ty (T_etchhouseref10_search_goOn_io (S_goD d) ok) n I_etchhouseref10_search_goOn_io ((l, now, best, most, ()), ()) = some r := by
  by_cases hg : OnWay l now ∧ l.length - now.length < d + 1
  case neg => unfold S_goD at h; rw [if_neg hg] at h; cases h
  have hS : S_goD (d + 1) ((l, now, best, most, ()), ()) = some ((), (resM (l, now, best, most, ()), ())) := by unfold S_goD; rw [if_pos hg]
  obtain ⟨hw, hdep⟩ := hg
  have hlen := hw.len
  have h8 := hw.few
  obtain ⟨N, hN⟩ : ∃ N, N = l.length + 1 := ⟨_, rfl⟩
  refine ⟨N, ?_⟩
  refine (B_etchhouseref10_search_goOn_io_eq (S_goD d) ok N (l, now, best, most, ())).trans ?_
  rw [← h, hS]
  unfold B_etchhouseref10_search_goOn_io
  have hmk : S_mkO_etchhouseref10_makespan l now = some ((mkZ l now, ()), ((), ((), ()))) := by
    unfold S_mkO_etchhouseref10_makespan
    rw [if_pos ⟨hw.good, by omega, hw.at_⟩]
  obtain ⟨f, hf⟩ : ∃ f, f = l.length - now.length := ⟨_, rfl⟩
  have hov := optM_nn (f := f) hw (by omega)
  simp only [hmk, Option.bind_some]
  unfold resM
  simp only [← hf]
  by_cases h0 : 0 ≤ most
  · rw [decide_eq_true h0, cond_true]
    by_cases h1 : most ≤ mkZ l now
    · rw [decide_eq_true h1, cond_true]
      unfold updM
      rw [if_neg (show ¬ (most < 0 ∨ (optM l f now).1 < most) by omega)]
    · rw [decide_eq_false h1, cond_false]
      have hnp : most < 0 ∨ mkZ l now < most := by omega
      by_cases hz : f = 0
      · have d1 : decide (((now.length : Nat) : Int) = ((l.length : Nat) : Int)) = true := decide_eq_true (by omega)
        have d2 : decide (now.length ≤ 4294967296) = true := decide_eq_true (by omega)
        have e : updM best most (optM l f now) = (now, mkZ l now) := by
          rw [hz]
          unfold updM optM
          simp only
          rw [if_pos hnp]
        simp only [d1, d2, cond_true, Option.bind_some, e, hmk] <;> rfl
      · have d1 : decide (((now.length : Nat) : Int) = ((l.length : Nat) : Int)) = false := decide_eq_false (by omega)
        simp only [d1, cond_false]
        obtain ⟨g, hg⟩ : ∃ g, f = g + 1 := ⟨f - 1, by omega⟩
        refine loop_meas (fun x => ∃ k : Nat, k ≤ l.length ∧ x = (((k : Int), ()), ((l, (now, ((updMA best most (foldN (candM (optM l g) now) k 0 none)).1, ((updMA best most (foldN (candM (optM l g) now) k 0 none)).2, ())))), ()))) (fun x => l.length - x.1.1.toNat) _ ?_ N _ ⟨0, Nat.zero_le _, rfl⟩ (by show l.length - (0 : Int).toNat < N; omega)
        rintro _ ⟨k, k1, rfl⟩
        by_cases hk : k < l.length
        · right
          have k2 : wrapI .i64 (((k : Nat) : Int) + 1) = ((k + 1 : Nat) : Int) := (wrap64 (by omega) (by omega)).trans (by omega)
          refine ⟨_, ⟨k + 1, hk, rfl⟩, ?_, fun rec3 => ?_⟩
          · show l.length - (((k + 1 : Nat) : Int)).toNat < l.length - ((k : Int)).toNat
            rw [Int.toNat_natCast, Int.toNat_natCast]; omega
          · rw [foldN_snoc, Nat.zero_add]
            have hci := candM_inv (optM l g) now k
            obtain ⟨acc, hacc⟩ : ∃ acc, acc = foldN (candM (optM l g) now) k 0 none := ⟨_, rfl⟩
            rw [← hacc] at hci ⊢
            simp only [lt_nat hk, k2, cond_true, Int.toNat_natCast, hasI_B]
            unfold candM
            cases hu : hasB now k with
            | true => rfl
            | false =>
              have hw2 := hw.snoc hk hu
              have j2 : decide (now.length + 1 ≤ 4294967296) = true := decide_eq_true (by omega)
              have hl2 : (now ++ [(k : Int)]).length = now.length + 1 := by simp
              have hlen : ((now ++ [(k : Int)]).length : Int) - 1 = ((now.length : Nat) : Int) := by omega
              have hF : S_goD d ((l, (now ++ [(k : Int)], ((updMA best most acc).1, ((updMA best most acc).2, ())))), ()) = some ((), (resM (l, (now ++ [(k : Int)], ((updMA best most acc).1, ((updMA best most acc).2, ())))), ())) := by
                unfold S_goD
                rw [if_pos ⟨hw2, by simp only; omega⟩]
              have ha : ∀ w, acc = some w → 0 ≤ w.1 := fun w e => by
                rcases hci with ⟨e2, _⟩ | ⟨m, m1, m2, e2⟩
                · rw [e2] at e; cases e
                · rw [e2] at e; cases e
                  exact (optM_nn (hw.snoc (show m < l.length by omega) m2) (by rw [List.length_append]; simp; omega)).1
              have hst := updM_step (best := best) (most := most) (v := optM l g (now ++ [(k : Int)])) ha
              have htk : ((now ++ [(k : Int)]).drop 0).take (now.length - 0) = now := by rw [List.drop_zero, Nat.sub_zero, List.take_left]
              have q1 : wrapI .i64 ((now.length : Int) ) = ((now.length : Nat) : Int) := wrap64 (by omega) (by omega)
              have q2 : decide ((0 : Int) ≤ ((now.length : Nat) : Int)) = true := decide_eq_true (by omega)
              have q3 : decide (((now.length : Nat) : Int) ≤ (((now ++ [(k : Int)]).length : Nat) : Int)) = true := decide_eq_true (by omega)
              have q5 : l.length - (now ++ [(k : Int)]).length = g := by omega
              simp only [j2, hF, cond_true, cond_false, Option.bind_some, resM, hlen, q1, q2, q3, Bool.and_self, htk, Int.toNat_natCast, q5]
              rw [hst]
        · left
          intro rec3
          obtain rfl : k = l.length := by omega
          have e : foldN (candM (optM l g) now) l.length 0 none = some (optM l f now) := by
            rcases candM_inv (optM l g) now l.length with ⟨_, h2⟩ | ⟨m, m1, m2, e2⟩
            · have := pigeon l.length now h2; omega
            · rw [e2, hg, optM, e2]; rfl
          rw [e]
          simp only [lt_self, cond_false]
          rfl
  · rw [decide_eq_false h0, cond_false]
    have hnp : most < 0 ∨ mkZ l now < most := by omega
    by_cases hz : f = 0
    · have d1 : decide (((now.length : Nat) : Int) = ((l.length : Nat) : Int)) = true := decide_eq_true (by omega)
      have d2 : decide (now.length ≤ 4294967296) = true := decide_eq_true (by omega)
      have e : updM best most (optM l f now) = (now, mkZ l now) := by
        rw [hz]
        unfold updM optM
        simp only
        rw [if_pos hnp]
      simp only [d1, d2, cond_true, Option.bind_some, e, hmk] <;> rfl
    · have d1 : decide (((now.length : Nat) : Int) = ((l.length : Nat) : Int)) = false := decide_eq_false (by omega)
      simp only [d1, cond_false]
      obtain ⟨g, hg⟩ : ∃ g, f = g + 1 := ⟨f - 1, by omega⟩
      refine loop_meas (fun x => ∃ k : Nat, k ≤ l.length ∧ x = (((k : Int), ()), ((l, (now, ((updMA best most (foldN (candM (optM l g) now) k 0 none)).1, ((updMA best most (foldN (candM (optM l g) now) k 0 none)).2, ())))), ()))) (fun x => l.length - x.1.1.toNat) _ ?_ N _ ⟨0, Nat.zero_le _, rfl⟩ (by show l.length - (0 : Int).toNat < N; omega)
      rintro _ ⟨k, k1, rfl⟩
      by_cases hk : k < l.length
      · right
        have k2 : wrapI .i64 (((k : Nat) : Int) + 1) = ((k + 1 : Nat) : Int) := (wrap64 (by omega) (by omega)).trans (by omega)
        refine ⟨_, ⟨k + 1, hk, rfl⟩, ?_, fun rec3 => ?_⟩
        · show l.length - (((k + 1 : Nat) : Int)).toNat < l.length - ((k : Int)).toNat
          rw [Int.toNat_natCast, Int.toNat_natCast]; omega
        · rw [foldN_snoc, Nat.zero_add]
          have hci := candM_inv (optM l g) now k
          obtain ⟨acc, hacc⟩ : ∃ acc, acc = foldN (candM (optM l g) now) k 0 none := ⟨_, rfl⟩
          rw [← hacc] at hci ⊢
          simp only [lt_nat hk, k2, cond_true, Int.toNat_natCast, hasI_B]
          unfold candM
          cases hu : hasB now k with
          | true => rfl
          | false =>
            have hw2 := hw.snoc hk hu
            have j2 : decide (now.length + 1 ≤ 4294967296) = true := decide_eq_true (by omega)
            have hl2 : (now ++ [(k : Int)]).length = now.length + 1 := by simp
            have hlen : ((now ++ [(k : Int)]).length : Int) - 1 = ((now.length : Nat) : Int) := by omega
            have hF : S_goD d ((l, (now ++ [(k : Int)], ((updMA best most acc).1, ((updMA best most acc).2, ())))), ()) = some ((), (resM (l, (now ++ [(k : Int)], ((updMA best most acc).1, ((updMA best most acc).2, ())))), ())) := by
              unfold S_goD
              rw [if_pos ⟨hw2, by simp only; omega⟩]
            have ha : ∀ w, acc = some w → 0 ≤ w.1 := fun w e => by
              rcases hci with ⟨e2, _⟩ | ⟨m, m1, m2, e2⟩
              · rw [e2] at e; cases e
              · rw [e2] at e; cases e
                exact (optM_nn (hw.snoc (show m < l.length by omega) m2) (by rw [List.length_append]; simp; omega)).1
            have hst := updM_step (best := best) (most := most) (v := optM l g (now ++ [(k : Int)])) ha
            have htk : ((now ++ [(k : Int)]).drop 0).take (now.length - 0) = now := by rw [List.drop_zero, Nat.sub_zero, List.take_left]
            have q1 : wrapI .i64 ((now.length : Int) ) = ((now.length : Nat) : Int) := wrap64 (by omega) (by omega)
            have q2 : decide ((0 : Int) ≤ ((now.length : Nat) : Int)) = true := decide_eq_true (by omega)
            have q3 : decide (((now.length : Nat) : Int) ≤ (((now ++ [(k : Int)]).length : Nat) : Int)) = true := decide_eq_true (by omega)
            have q5 : l.length - (now ++ [(k : Int)]).length = g := by omega
            simp only [j2, hF, cond_true, cond_false, Option.bind_some, resM, hlen, q1, q2, q3, Bool.and_self, htk, Int.toNat_natCast, q5]
            rw [hst]
      · left
        intro rec3
        obtain rfl : k = l.length := by omega
        have e : foldN (candM (optM l g) now) l.length 0 none = some (optM l f now) := by
          rcases candM_inv (optM l g) now l.length with ⟨_, h2⟩ | ⟨m, m1, m2, e2⟩
          · have := pigeon l.length now h2; omega
          · rw [e2, hg, optM, e2]; rfl
        rw [e]
        simp only [lt_self, cond_false]
        rfl
theorem go_step (d : Nat) (ok : ∀ x r, S_goD d x = some r → RunOK Try.prog I_etchhouseref10_search_goOn_io x r) : ∀ x r, OkA I_etchhouseref10_search_goOn_io.args x → S_goD (d + 1) x = some r → ∃ n, bodyE ty (T_etchhouseref10_search_goOn_io (S_goD d) ok) n I_etchhouseref10_search_goOn_io x = some r := by
  rintro ⟨⟨l, now, best, most, ⟨⟩⟩, ⟨⟩⟩ r _ h
  exact go_step1 d ok l now best most r h
noncomputable def E_etchhouseref10_search_goOn_io : Entry Try.prog := Entry.deep tok it_etchhouseref10_search_goOn_io (fun F ok => T_etchhouseref10_search_goOn_io F ok) S_goD (fun x => if_neg (fun c => Nat.not_lt_zero _ c.2)) go_step S_goF (fun x r h => ⟨x.1.1.length - x.1.2.1.length + 1, by
  unfold S_goF at h
  unfold S_goD
  split at h
  · rename_i hg
    rw [if_pos ⟨hg, Nat.lt_succ_self _⟩]; exact h
  · cases h⟩)

end Go.Proofs.Yteepfoiiidpchaa
namespace Go.Proofs.Yteepfoiiidpchaa
open Go Go.VM
/-! ### etchhouse.etchhouseref10.Best -/
noncomputable def I_etchhouseref10_Best : Inst := ⟨15, Try.f15, .two (.reg []) (.two (.two (.reg [(1, 0)]) (.two (.reg []) (.two (.two (.reg []) (.leaf)) (.leaf)))) (.two (.reg []) (.two (.reg [(1, 1)]) (.two (.draw [] [0, 1, 2, 3, 4, 5, 6, 7, 8, 9, 10] [14, 2]) (.leaf))))), (.cons (.pv (.sl (.pair .str (.pair i (.pair i .unit))))) .nil), (.cons (.own .flat) (.sl i) (.cons .flat i (.cons .flat i .nil)))⟩
theorem it_etchhouseref10_Best : InTab Try.prog I_etchhouseref10_Best := ⟨Try.func15, by kernel_rfl, rfl⟩
noncomputable def T_etchhouseref10_Best : Nat → Entry Try.prog := nth (Entry.no Try.f0) [E_etchhouseref10_checkBatches, E_etchhouseref10_search_goOn_io]
noncomputable def B_etchhouseref10_Best (x0 : List (ByteArray × (Int × (Int × Unit)))) : Option (((List Int × (Int × (Int × Unit))) × (Unit × Unit))) :=
  (bif (!(decide ((S_lots x0 8 = 0)))) then
    some (([], (0, (S_lots x0 8, ()))), ((), ()))
  else
    ((S_goF ((x0, ([], ([], ((-1), ())))), ())).bind fun ((), ((r1baa, (r1baba, (r1babba, (r1babbba, ())))), ())) =>
    some ((r1babba, (r1babbba, (0, ()))), ((), ()))))
theorem B_etchhouseref10_Best_eq (n : Nat) (x0 : List (ByteArray × (Int × (Int × Unit)))) : bodyE ty T_etchhouseref10_Best n I_etchhouseref10_Best (x0, ()) = B_etchhouseref10_Best x0 := by kernel_rfl

end Go.Proofs.Yteepfoiiidpchaa
namespace Go.Proofs.Yteepfoiiidpchaa
open Go Go.VM
noncomputable def E_etchhouseref10_Best : Entry Try.prog := Entry.of tok T_etchhouseref10_Best I_etchhouseref10_Best it_etchhouseref10_Best (fun x => B_etchhouseref10_Best x.1) (fun (a0, ()) r _ h => ⟨0, (B_etchhouseref10_Best_eq 0 a0).trans h⟩)

end Go.Proofs.Yteepfoiiidpchaa
namespace Go.Proofs.Yteepfoiiidpchaa
open Go Go.VM
/-! ### slices.Equal[[]int,int] -/
noncomputable def I_slices_Equal_int_int : Inst := ⟨9, Try.f9, .two (.reg []) (.two (.two (.reg []) (.two (.two (.reg []) (.leaf)) (.leaf))) (.two (.two (.reg []) (.one (.loop ⟨[(13, .pv i)], [], [0, 1, 12], []⟩ (.two (.reg []) (.two (.two (.leaf) (.leaf)) (.two (.one (.two (.reg []) (.two (.draw [] [0, 1, 2, 3, 4, 5, 6, 7, 8] []) (.two (.two (.reg []) (.leaf)) (.leaf))))) (.reg []))))))) (.two (.reg []) (.leaf)))), (.cons (.pv (.sl i)) (.cons (.pv (.sl i)) .nil)), (.cons .flat .bool .nil)⟩
theorem it_slices_Equal_int_int : InTab Try.prog I_slices_Equal_int_int := ⟨Try.func9, by kernel_rfl, rfl⟩
noncomputable def T_slices_Equal_int_int : Nat → Entry Try.prog := nth (Entry.no Try.f0) []
noncomputable def B_slices_Equal_int_int (n : Nat) (x0 : List Int) (x1 : List Int) : Option (((Bool × Unit) × (Unit × (Unit × Unit)))) :=
  (bif (!(decide ((((x0.length : Nat) : Int) = ((x1.length : Nat) : Int))))) then
    some ((false, ()), ((), ((), ())))
  else
    loopN (fun rec1 => fun
    | ((v1aa, ()), ()) =>
      (bif decide ((v1aa < ((x0.length : Nat) : Int))) then
        (bif inB v1aa x0.length then
          (bif inB v1aa x1.length then
            (bif (!(decide ((x0.getD v1aa.toNat (0 : Int) = x1.getD v1aa.toNat (0 : Int))))) then
              some ((false, ()), ((), ((), ())))
            else
              rec1 ((wrapI .i64 (v1aa + 1), ()), ()))
          else
            none)
        else
          none)
      else
        some ((true, ()), ((), ((), ())))))
    n ((0, ()), ()))
theorem B_slices_Equal_int_int_eq (n : Nat) (x0 : List Int) (x1 : List Int) : bodyE ty T_slices_Equal_int_int n I_slices_Equal_int_int (x0, (x1, ())) = B_slices_Equal_int_int n x0 x1 := by kernel_rfl

end Go.Proofs.Yteepfoiiidpchaa
namespace Go.Proofs.Yteepfoiiidpchaa
open Go Go.VM
theorem eqL : ∀ (d i : Nat) (a b : List Int), i + d = a.length → a.length = b.length → ∀ n, d < n → a.length ≤ maxLen →
    loopN (fun rec2 => fun
    | ((v2aa, ()), ()) =>
      (bif decide ((v2aa < ((a.length : Nat) : Int))) then
        (bif inB v2aa a.length then
          (bif inB v2aa b.length then
            (bif (!(decide ((a.getD v2aa.toNat 0 = b.getD v2aa.toNat 0)))) then
              some ((false, ()), ((), (), ()))
            else
              rec2 ((wrapI .i64 (v2aa + 1), ()), ()))
          else
            none)
        else
          none)
      else
        some ((true, ()), ((), (), ())))) n ((((i : Nat) : Int), ()), ()) = some ((decide (a.drop i = b.drop i), ()), ((), (), ())) := by
  intro d
  induction d with
  | zero =>
    intro i a b hi hab n hn hl
    obtain ⟨m, rfl⟩ : ∃ m, n = m + 1 := ⟨n - 1, by omega⟩
    obtain rfl : i = a.length := by omega
    rw [loopN_succ]
    simp only [lt_self, cond_false]
    rw [List.drop_length, hab, List.drop_length]
    simp
  | succ d ih =>
    intro i a b hi hab n hn hl
    obtain ⟨m, rfl⟩ : ∃ m, n = m + 1 := ⟨n - 1, by omega⟩
    have h : i < a.length := by omega
    have h2 : i < b.length := by omega
    rw [loopN_succ]
    simp only [lt_nat h, inB_nat h, inB_nat h2, getD_lt h, getD_lt h2, succ64 h hl, cond_true]
    rw [ih (i + 1) a b (by omega) hab m (by omega) hl, List.drop_eq_getElem_cons h, List.drop_eq_getElem_cons h2]
    by_cases e : a[i] = b[i]
    · have : decide (a[i] = b[i]) = true := decide_eq_true e
      rw [this, Bool.not_true, cond_false]
      have : decide (a[i] :: List.drop (i + 1) a = b[i] :: List.drop (i + 1) b) = decide (List.drop (i + 1) a = List.drop (i + 1) b) := by simp only [e, List.cons.injEq, true_and]
      rw [this]
    · have : decide (a[i] = b[i]) = false := decide_eq_false e
      rw [this, Bool.not_false, cond_true]
      have : decide (a[i] :: List.drop (i + 1) a = b[i] :: List.drop (i + 1) b) = false := decide_eq_false fun c => e (List.cons.inj c).1
      rw [this]
theorem ok_slices_Equal_int_int (x0 x1 : List Int) (hok : OkA I_slices_Equal_int_int.args (x0, x1, ())) : ∃ n, bodyE ty T_slices_Equal_int_int n I_slices_Equal_int_int (x0, x1, ()) = some ((decide (x0 = x1), ()), ((), (), ())) := ⟨x0.length + 1, by
  obtain ⟨⟨hl, _⟩, _⟩ := hok
  rw [B_slices_Equal_int_int_eq]
  unfold B_slices_Equal_int_int
  by_cases e : x0.length = x1.length
  · have : decide (((x0.length : Nat) : Int) = ((x1.length : Nat) : Int)) = true := by simp [e]
    simp only [this, Bool.not_true, cond_false]
    exact eqL x0.length 0 x0 x1 (by omega) e _ (Nat.lt_succ_self _) hl
  · have : decide (((x0.length : Nat) : Int) = ((x1.length : Nat) : Int)) = false := by simp; omega
    simp only [this, Bool.not_false, cond_true]
    have : decide (x0 = x1) = false := by simp; intro c; exact e (by rw [c])
    rw [this]⟩
noncomputable def E_slices_Equal_int_int : Entry Try.prog := Entry.of tok T_slices_Equal_int_int I_slices_Equal_int_int it_slices_Equal_int_int (fun (x0, x1, ()) => some ((decide (x0 = x1), ()), ((), (), ()))) (fun (x0, x1, ()) r hok h => by cases h; exact ok_slices_Equal_int_int x0 x1 hok)

end Go.Proofs.Yteepfoiiidpchaa
namespace Go.Proofs.Yteepfoiiidpchaa
open Go Go.VM
/-! ### slices.Clone[[]bool,bool] -/
noncomputable def I_slices_Clone_bool_bool : Inst := ⟨18, Try.f18, .two (.reg []) (.two (.two (.reg []) (.two (.two (.reg []) (.leaf)) (.leaf))) (.two (.reg []) (.leaf))), (.cons (.pv (.sl .bool)) .nil), (.cons (.own .flat) (.sl .bool) .nil)⟩
theorem it_slices_Clone_bool_bool : InTab Try.prog I_slices_Clone_bool_bool := ⟨Try.func18, by kernel_rfl, rfl⟩
noncomputable def T_slices_Clone_bool_bool : Nat → Entry Try.prog := nth (Entry.no Try.f0) []
noncomputable def B_slices_Clone_bool_bool (x0 : List Bool) : Option (((List Bool × Unit) × (Unit × Unit))) :=
  (bif x0.isEmpty then
    unk (fun b1 =>
      (bif b1 then
        some (([], ()), ((), ()))
      else
        (bif decide (((0 + x0.length) ≤ 4294967296)) then
          some ((x0, ()), ((), ()))
        else
          none)))
  else
    (bif decide (((0 + x0.length) ≤ 4294967296)) then
      some ((x0, ()), ((), ()))
    else
      none))
theorem B_slices_Clone_bool_bool_eq (n : Nat) (x0 : List Bool) : bodyE ty T_slices_Clone_bool_bool n I_slices_Clone_bool_bool (x0, ()) = B_slices_Clone_bool_bool x0 := by kernel_rfl

end Go.Proofs.Yteepfoiiidpchaa
namespace Go.Proofs.Yteepfoiiidpchaa
open Go Go.VM
def S_cloneB (x0 : List Bool) : Option ((List Bool × Unit) × Unit × Unit) := bif decide (0 + x0.length ≤ 4294967296) then some ((x0, ()), ((), ())) else none
theorem cloneB_eq {p : List Bool} (h : p.length ≤ 30001) : S_cloneB p = some ((p, ()), (), ()) := by
  unfold S_cloneB
  rw [decide_eq_true (by omega), cond_true]
theorem ok_slices_Clone_bool_bool (x0 : List Bool) (hok : OkA I_slices_Clone_bool_bool.args (x0, ())) (r) (h : S_cloneB x0 = some r) : ∃ n, bodyE ty T_slices_Clone_bool_bool n I_slices_Clone_bool_bool (x0, ()) = some r := ⟨0, by
  refine (B_slices_Clone_bool_bool_eq 0 x0).trans (Eq.trans ?_ h)
  unfold B_slices_Clone_bool_bool S_cloneB
  cases x0 with
  | nil =>
    simp only [List.isEmpty_nil, cond_true]
    unfold unk
    exact if_pos rfl
  | cons a l => rfl⟩
noncomputable def E_slices_Clone_bool_bool : Entry Try.prog := Entry.of tok T_slices_Clone_bool_bool I_slices_Clone_bool_bool it_slices_Clone_bool_bool (fun (x0, ()) => S_cloneB x0) (fun (x0, ()) r hok h => ok_slices_Clone_bool_bool x0 hok r h)

end Go.Proofs.Yteepfoiiidpchaa
namespace Go.Proofs.Yteepfoiiidpchaa
open Go Go.VM
/-! ### etchhouse.mount.Balanced$1 -/
noncomputable def I_mount_Balanced_1_io_io_io_io : Inst := ⟨19, Try.f19, .two (.reg []) (.two (.two (.reg []) (.one (.loop ⟨[(15, .pv i)], [], [0, 3, 4, 13, 14], [1030, 1040, 13, 1010, 1020]⟩ (.two (.reg []) (.two (.two (.leaf) (.leaf)) (.two (.one (.two (.reg []) (.two (.reg []) (.two (.two (.reg []) (.leaf)) (.leaf))))) (.reg []))))))) (.two (.reg []) (.leaf))), (.cons (.pv i) (.cons (.io .flat i) (.cons (.io .flat i) (.cons (.io (.own (.own .flat)) (.sl (.sl .bool))) (.cons (.io .flat i) .nil))))), (.cons .flat .bool .nil)⟩
theorem it_mount_Balanced_1_io_io_io_io : InTab Try.prog I_mount_Balanced_1_io_io_io_io := ⟨Try.func19, by kernel_rfl, rfl⟩
noncomputable def T_mount_Balanced_1_io_io_io_io : Nat → Entry Try.prog := nth (Entry.no Try.f0) []
noncomputable def B_mount_Balanced_1_io_io_io_io (n : Nat) (x0 : Int) (x1 : Int) (x2 : Int) (x3 : List (List Bool)) (x4 : Int) : Option (((Bool × Unit) × (Unit × (Int × (Int × (List (List Bool) × (Int × Unit))))))) :=
  loopN (fun rec1 => fun
  | ((v1aa, ()), ()) =>
    (bif decide ((v1aa < 2)) then
      (bif inB v1aa 2 then
        (bif decide ((x0 ≤ ([x1, wrapI .i64 (x2 - x1)]).getD v1aa.toNat (0 : Int))) then
          (bif inB (wrapI .i64 (x4 + 1)) x3.length then
            (bif inB (wrapI .i64 (([x1, wrapI .i64 (x2 - x1)]).getD v1aa.toNat (0 : Int) - x0)) ((x3.getD ((wrapI .i64 (x4 + 1)).toNat) []).length) then
              (bif (x3.getD ((wrapI .i64 (x4 + 1)).toNat) []).getD ((wrapI .i64 (([x1, wrapI .i64 (x2 - x1)]).getD v1aa.toNat (0 : Int) - x0)).toNat) false then
                some ((true, ()), ((), (x1, (x2, (x3, (x4, ()))))))
              else
                rec1 ((wrapI .i64 (v1aa + 1), ()), ()))
            else
              none)
          else
            none)
        else
          rec1 ((wrapI .i64 (v1aa + 1), ()), ()))
      else
        none)
    else
      some ((false, ()), ((), (x1, (x2, (x3, (x4, ()))))))))
  n ((0, ()), ())
theorem B_mount_Balanced_1_io_io_io_io_eq (n : Nat) (x0 : Int) (x1 : Int) (x2 : Int) (x3 : List (List Bool)) (x4 : Int) : bodyE ty T_mount_Balanced_1_io_io_io_io n I_mount_Balanced_1_io_io_io_io (x0, (x1, (x2, (x3, (x4, ()))))) = B_mount_Balanced_1_io_io_io_io n x0 x1 x2 x3 x4 := by kernel_rfl

end Go.Proofs.Yteepfoiiidpchaa
namespace Go.Proofs.Yteepfoiiidpchaa
open Go Go.VM
def S_chk1 (x0 x : Int) (x3 : List (List Bool)) (x4 : Int) : Option Bool :=
  bif decide (x0 ≤ x) then
    (bif inB (wrapI .i64 (x4 + 1)) x3.length then
      (bif inB (wrapI .i64 (x - x0)) ((x3.getD ((wrapI .i64 (x4 + 1)).toNat) []).length) then
        some ((x3.getD ((wrapI .i64 (x4 + 1)).toNat) []).getD ((wrapI .i64 (x - x0)).toNat) false)
      else none)
    else none)
  else some false
def S_reach (x0 x1 x2 : Int) (x3 : List (List Bool)) (x4 : Int) : Option Bool :=
  (S_chk1 x0 x1 x3 x4).bind fun b => bif b then some true else S_chk1 x0 (wrapI .i64 (x2 - x1)) x3 x4
abbrev T_reachR := (Bool × Unit) × Unit × Int × Int × List (List Bool) × Int × Unit
def S_reachR (x0 x1 x2 : Int) (x3 : List (List Bool)) (x4 : Int) : Option T_reachR := (S_reach x0 x1 x2 x3 x4).map (fun b => ((b, ()), ((), x1, x2, x3, x4, ())))
theorem reach_eq (x0 x1 x2 : Int) (x3 : List (List Bool)) (x4 : Int) : B_mount_Balanced_1_io_io_io_io 3 x0 x1 x2 x3 x4 = (S_reach x0 x1 x2 x3 x4).map (fun b => ((b, ()), ((), x1, x2, x3, x4, ()))) := by
  unfold B_mount_Balanced_1_io_io_io_io S_reach S_chk1
  rw [loopN_succ]
  have w1 : wrapI .i64 (0 + 1) = 1 := rfl
  have w2 : wrapI .i64 (1 + 1) = 2 := rfl
  have e0 : inB (0 : Int) 2 = true := rfl
  have e1 : inB (1 : Int) 2 = true := rfl
  have d0 : decide ((0 : Int) < 2) = true := rfl
  have d1 : decide ((1 : Int) < 2) = true := rfl
  have d2 : decide ((2 : Int) < 2) = false := rfl
  have g0 : ([x1, wrapI .i64 (x2 - x1)] : List Int).getD (0 : Int).toNat 0 = x1 := rfl
  have g1 : ([x1, wrapI .i64 (x2 - x1)] : List Int).getD (1 : Int).toNat 0 = wrapI .i64 (x2 - x1) := rfl
  simp only [w1, e0, d0, g0, cond_true]
  rw [loopN_succ, loopN_succ]
  simp only [w2, e1, d1, d2, g1, cond_true, cond_false]
  generalize wrapI .i64 (x2 - x1) = y
  cases decide (x0 ≤ x1) <;> cases decide (x0 ≤ y) <;> cases inB (wrapI .i64 (x4 + 1)) x3.length <;> cases inB (wrapI .i64 (x1 - x0)) ((x3.getD ((wrapI .i64 (x4 + 1)).toNat) []).length) <;> cases inB (wrapI .i64 (y - x0)) ((x3.getD ((wrapI .i64 (x4 + 1)).toNat) []).length) <;> cases ((x3.getD ((wrapI .i64 (x4 + 1)).toNat) []).getD ((wrapI .i64 (x1 - x0)).toNat) false) <;> cases ((x3.getD ((wrapI .i64 (x4 + 1)).toNat) []).getD ((wrapI .i64 (y - x0)).toNat) false) <;> rfl
theorem ok_mount_Balanced_1_io_io_io_io (x0 x1 x2 : Int) (x3 : List (List Bool)) (x4 : Int) (hok : OkA I_mount_Balanced_1_io_io_io_io.args (x0, x1, x2, x3, x4, ())) (r) (h : S_reachR x0 x1 x2 x3 x4 = some r) : ∃ n, bodyE ty T_mount_Balanced_1_io_io_io_io n I_mount_Balanced_1_io_io_io_io (x0, x1, x2, x3, x4, ()) = some r := ⟨3, (B_mount_Balanced_1_io_io_io_io_eq ..).trans ((reach_eq ..).trans h)⟩
noncomputable def E_mount_Balanced_1_io_io_io_io : Entry Try.prog := Entry.of tok T_mount_Balanced_1_io_io_io_io I_mount_Balanced_1_io_io_io_io it_mount_Balanced_1_io_io_io_io (fun (x0, x1, x2, x3, x4, ()) => S_reachR x0 x1 x2 x3 x4) (fun (x0, x1, x2, x3, x4, ()) r hok h => ok_mount_Balanced_1_io_io_io_io x0 x1 x2 x3 x4 hok r h)

end Go.Proofs.Yteepfoiiidpchaa
namespace Go.Proofs.Yteepfoiiidpchaa
open Go Go.VM
/-! ### etchhouse.mount.Balanced -/
noncomputable def I_mount_Balanced : Inst := ⟨7, Try.f7, .two (.reg []) (.two (.two (.reg []) (.two (.two (.reg []) (.leaf)) (.leaf))) (.two (.reg []) (.two (.two (.reg []) (.one (.loop ⟨[(22, .pv i)], [(5, ⟨.flat, i, true, false⟩)], [0, 5, 20, 21], []⟩ (.two (.reg []) (.two (.two (.leaf) (.leaf)) (.two (.one (.two (.reg []) (.two (.two (.reg [(1, 0)]) (.two (.two (.reg []) (.leaf)) (.leaf))) (.reg [])))) (.reg []))))))) (.two (.two (.reg []) (.two (.two (.reg []) (.leaf)) (.leaf))) (.two (.reg []) (.two (.draw [] [0, 1, 2, 3, 4, 5, 6, 7] [8, 5]) (.two (.reg []) (.two (.two (.reg []) (.one (.loop ⟨[(9, .pv i)], [(8, ⟨(.own (.own .flat)), (.sl (.sl .bool)), true, false⟩)], [0, 5, 8], [5]⟩ (.two (.two (.reg []) (.two (.leaf) (.leaf))) (.two (.one (.two (.draw [(7, 1)] [0, 1, 2, 3, 4, 5, 6, 7, 8, 9] [8]) (.two (.reg []) (.one (.loop ⟨[(10, .pv i)], [(8, ⟨(.own (.own .flat)), (.sl (.sl .bool)), true, false⟩)], [0, 5, 8, 9], [5]⟩ (.two (.two (.reg []) (.two (.leaf) (.leaf))) (.two (.one (.draw [] [0, 1, 2, 3, 4, 5, 6, 7, 8, 9, 10, 11, 12, 13, 14, 15, 16, 17, 18, 19, 20, 21, 22, 23, 24, 25, 26, 27, 28] [8])) (.reg [])))))))) (.reg [])))))) (.two (.reg []) (.two (.two (.reg []) (.one (.loop ⟨[(12, .pv i)], [(11, ⟨.flat, i, true, false⟩)], [0, 5, 8, 11], [5, 8]⟩ (.two (.two (.reg []) (.two (.leaf) (.leaf))) (.two (.one (.two (.draw [] [0, 1, 2, 3, 4, 5, 6, 7, 8, 9] [8]) (.two (.reg []) (.leaf)))) (.reg [])))))) (.two (.draw [] [1, 2, 3, 0, 4, 5] []) (.two (.two (.reg []) (.one (.loop ⟨[(13, .st (.at (.rf 13 []))), (14, .pv i), (15, .st (.at (.ptr 15 [])))], [(13, ⟨(.own .flat), (.sl i), false, false⟩), (15, ⟨.flat, i, true, false⟩), (5, ⟨.flat, i, true, false⟩), (8, ⟨(.own (.own .flat)), (.sl (.sl .bool)), true, false⟩), (11, ⟨.flat, i, true, false⟩)], [0, 5, 8, 11], []⟩ (.two (.two (.reg []) (.two (.leaf) (.leaf))) (.two (.one (.two (.reg []) (.two (.reg [(7, 2)]) (.two (.draw [] [0, 1, 4, 5, 6, 7, 8, 9, 2, 3, 10, 11] [15, 13]) (.leaf))))) (.two (.two (.reg []) (.reg [])) (.reg []))))))) (.two (.draw [] [0, 1, 2, 3, 4] [13, 11]) (.leaf)))))))))))))), (.cons (.pv (.sl i)) .nil), (.cons (.own .flat) (.sl i) (.cons .flat i (.cons .flat i .nil)))⟩
theorem it_mount_Balanced : InTab Try.prog I_mount_Balanced := ⟨Try.func7, by kernel_rfl, rfl⟩
noncomputable def T_mount_Balanced : Nat → Entry Try.prog := nth (Entry.no Try.f0) [E_mount_within, E_slices_Clone_bool_bool, E_mount_Balanced_1_io_io_io_io]
noncomputable def B_mount_Balanced (n : Nat) (x0 : List Int) : Option (((List Int × (Int × (Int × Unit))) × (Unit × Unit))) :=
  (bif decide ((30 < ((x0.length : Nat) : Int))) then
    some (([], (0, (2, ()))), ((), ()))
  else
    loopN (fun rec1 => fun
    | ((v1aa, ()), (v1ba, ())) =>
      (bif decide ((v1aa < ((x0.length : Nat) : Int))) then
        (bif inB v1aa x0.length then
          (bif (!(S_within (x0.getD v1aa.toNat (0 : Int)) 0 1000)) then
            some (([], (0, (1, ()))), ((), ()))
          else
            rec1 ((wrapI .i64 (v1aa + 1), ()), (wrapI .i64 (v1ba + x0.getD v1aa.toNat (0 : Int)), ())))
        else
          none)
      else
        (bif decide ((((x0.length : Nat) : Int) = 0)) then
          some (([], (0, (0, ()))), ((), ()))
        else
          (bif ((decide ((0 ≤ wrapI .i64 (((x0.length : Nat) : Int) + 1))) && decide ((wrapI .i64 (((x0.length : Nat) : Int) + 1) ≤ wrapI .i64 (((x0.length : Nat) : Int) + 1)))) && decide ((wrapI .i64 (((x0.length : Nat) : Int) + 1) ≤ 4294967296))) then
            (bif ((decide ((0 ≤ wrapI .i64 (v1ba + 1))) && decide ((wrapI .i64 (v1ba + 1) ≤ wrapI .i64 (v1ba + 1)))) && decide ((wrapI .i64 (v1ba + 1) ≤ 4294967296))) then
              (bif inB ((x0.length : Nat) : Int) ((List.replicate (α := List Bool) ((wrapI .i64 (((x0.length : Nat) : Int) + 1)).toNat) []).length) then
                (bif inB ((x0.length : Nat) : Int) (((List.replicate (α := List Bool) ((wrapI .i64 (((x0.length : Nat) : Int) + 1)).toNat) []).set (((x0.length : Nat) : Int).toNat) (List.replicate (α := Bool) ((wrapI .i64 (v1ba + 1)).toNat) false)).length) then
                  (bif inB 0 ((((List.replicate (α := List Bool) ((wrapI .i64 (((x0.length : Nat) : Int) + 1)).toNat) []).set (((x0.length : Nat) : Int).toNat) (List.replicate (α := Bool) ((wrapI .i64 (v1ba + 1)).toNat) false)).getD (((x0.length : Nat) : Int).toNat) []).length) then
                    loopN (fun rec2 => fun
                    | ((v2aa, ()), (v2ba, ())) =>
                      (bif decide ((0 ≤ v2aa)) then
                        (bif inB (wrapI .i64 (v2aa + 1)) v2ba.length then
                          ((S_cloneB (v2ba.getD ((wrapI .i64 (v2aa + 1)).toNat) [])).bind fun ((r3aa, ()), ((), ())) =>
                          (bif inB v2aa v2ba.length then
                            (bif inB v2aa x0.length then
                              loopN (fun rec4 => fun
                              | ((v4aa, ()), (v4ba, ())) =>
                                (bif decide ((v4aa ≤ v1ba)) then
                                  (bif inB v2aa v4ba.length then
                                    (bif inB v2aa v4ba.length then
                                      (bif inB v4aa ((v4ba.getD v2aa.toNat []).length) then
                                        (bif (v4ba.getD v2aa.toNat []).getD v4aa.toNat false then
                                          (bif inB v4aa ((v4ba.getD v2aa.toNat []).length) then
                                            rec4 ((wrapI .i64 (v4aa + 1), ()), (v4ba.set v2aa.toNat ((v4ba.getD v2aa.toNat []).set v4aa.toNat true), ()))
                                          else
                                            none)
                                        else
                                          (bif inB (wrapI .i64 (v2aa + 1)) v4ba.length then
                                            (bif inB v2aa x0.length then
                                              (bif inB (wrapI .i64 (v4aa - x0.getD v2aa.toNat (0 : Int))) ((v4ba.getD ((wrapI .i64 (v2aa + 1)).toNat) []).length) then
                                                (bif inB v4aa ((v4ba.getD v2aa.toNat []).length) then
                                                  rec4 ((wrapI .i64 (v4aa + 1), ()), (v4ba.set v2aa.toNat ((v4ba.getD v2aa.toNat []).set v4aa.toNat ((v4ba.getD ((wrapI .i64 (v2aa + 1)).toNat) []).getD ((wrapI .i64 (v4aa - x0.getD v2aa.toNat (0 : Int))).toNat) false)), ()))
                                                else
                                                  none)
                                              else
                                                none)
                                            else
                                              none)
                                          else
                                            none))
                                      else
                                        none)
                                    else
                                      none)
                                  else
                                    none)
                                else
                                  rec2 ((wrapI .i64 (v2aa - 1), ()), (v4ba, ()))))
                              n ((x0.getD v2aa.toNat (0 : Int), ()), (v2ba.set v2aa.toNat r3aa, ()))
                            else
                              none)
                          else
                            none))
                        else
                          none)
                      else
                        (bif inB 0 x0.length then
                          loopN (fun rec5 => fun
                          | ((v5aa, ()), (v5ba, ())) =>
                            (bif decide ((v5aa ≤ v1ba)) then
                              (bif inB 1 v2ba.length then
                                (bif inB 0 x0.length then
                                  (bif inB (wrapI .i64 (v5aa - x0.getD 0 (0 : Int))) ((v2ba.getD 1 []).length) then
                                    (bif (v2ba.getD 1 []).getD ((wrapI .i64 (v5aa - x0.getD 0 (0 : Int))).toNat) false then
                                      rec5 ((wrapI .i64 (v5aa + 1), ()), ((bif decide (((bif decide ((v5aa < wrapI .i64 (v1ba - v5aa))) then wrapI .i64 (v1ba - v5aa) else v5aa) < v5ba)) then (bif decide ((v5aa < wrapI .i64 (v1ba - v5aa))) then wrapI .i64 (v1ba - v5aa) else v5aa) else v5ba), ()))
                                    else
                                      rec5 ((wrapI .i64 (v5aa + 1), ()), (v5ba, ())))
                                  else
                                    none)
                                else
                                  none)
                              else
                                none)
                            else
                              (bif inB 0 x0.length then
                                loopN (fun rec6 => fun
                                | ((v6aa, ()), (v6ba, (v6bba, (v6bbba, (v6bbbba, (v6bbbbba, ())))))) =>
                                  (bif (!(decide (((bif decide ((v6aa < wrapI .i64 (v6bbba - v6aa))) then wrapI .i64 (v6bbba - v6aa) else v6aa) = v6bbbbba)))) then
                                    (bif inB v6bba x0.length then
                                      ((S_reachR (wrapI .i64 (v6aa + x0.getD v6bba.toNat (0 : Int))) v6bbbbba v6bbba v6bbbba v6bba).bind fun ((r7aa, ()), ((), (r7bba, (r7bbba, (r7bbbba, (r7bbbbba, ())))))) =>
                                      (bif r7aa then
                                        (bif inB r7bbbbba x0.length then
                                          (bif decide (((v6ba.length + 1) ≤ 4294967296)) then
                                            rec6 ((wrapI .i64 (v6aa + x0.getD r7bbbbba.toNat (0 : Int)), ()), ((v6ba ++ [r7bbbbba]), (wrapI .i64 (r7bbbbba + 1), (r7bbba, (r7bbbba, (r7bba, ()))))))
                                          else
                                            none)
                                        else
                                          none)
                                      else
                                        rec6 ((v6aa, ()), (v6ba, (wrapI .i64 (r7bbbbba + 1), (r7bbba, (r7bbbba, (r7bba, ()))))))))
                                    else
                                      none)
                                  else
                                    some ((v6ba, (v6bbbbba, (0, ()))), ((), ()))))
                                n ((x0.getD 0 (0 : Int), ()), ([0], (1, (v1ba, (v2ba, (v5ba, ()))))))
                              else
                                none)))
                          n ((x0.getD 0 (0 : Int), ()), (v1ba, ()))
                        else
                          none)))
                    n ((wrapI .i64 (((x0.length : Nat) : Int) - 1), ()), (((List.replicate (α := List Bool) ((wrapI .i64 (((x0.length : Nat) : Int) + 1)).toNat) []).set (((x0.length : Nat) : Int).toNat) (List.replicate (α := Bool) ((wrapI .i64 (v1ba + 1)).toNat) false)).set (((x0.length : Nat) : Int).toNat) ((((List.replicate (α := List Bool) ((wrapI .i64 (((x0.length : Nat) : Int) + 1)).toNat) []).set (((x0.length : Nat) : Int).toNat) (List.replicate (α := Bool) ((wrapI .i64 (v1ba + 1)).toNat) false)).getD (((x0.length : Nat) : Int).toNat) []).set 0 true), ()))
                  else
                    none)
                else
                  none)
              else
                none)
            else
              none)
          else
            none))))
    n ((0, ()), (0, ())))
theorem B_mount_Balanced_eq (n : Nat) (x0 : List Int) : bodyE ty T_mount_Balanced n I_mount_Balanced (x0, ()) = B_mount_Balanced n x0 := by kernel_rfl

end Go.Proofs.Yteepfoiiidpchaa
namespace Go.Proofs.Yteepfoiiidpchaa
open Go Go.VM
noncomputable def K_chooseM (n : Nat) (x0 : List Int) (v1ba : Int) (v2ba : List (List Bool)) (v5ba : Int) : Option ((List Int × (Int × (Int × Unit))) × (Unit × Unit)) :=
  (bif inB 0 x0.length then
                                loopN (fun rec6 => fun
                                | ((v6aa, ()), (v6ba, (v6bba, (v6bbba, (v6bbbba, (v6bbbbba, ())))))) =>
                                  (bif (!(decide (((bif decide ((v6aa < wrapI .i64 (v6bbba - v6aa))) then wrapI .i64 (v6bbba - v6aa) else v6aa) = v6bbbbba)))) then
                                    (bif inB v6bba x0.length then
                                      ((S_reachR (wrapI .i64 (v6aa + x0.getD v6bba.toNat 0)) v6bbbbba v6bbba v6bbbba v6bba).bind fun ((r7aa, ()), ((), (r7bba, (r7bbba, (r7bbbba, (r7bbbbba, ())))))) =>
                                      (bif r7aa then
                                        (bif inB r7bbbbba x0.length then
                                          (bif decide (((v6ba.length + 1) ≤ 4294967296)) then
                                            rec6 ((wrapI .i64 (v6aa + x0.getD r7bbbbba.toNat 0), ()), ((v6ba ++ [r7bbbbba]), (wrapI .i64 (r7bbbbba + 1), (r7bbba, (r7bbbba, (r7bba, ()))))))
                                          else
                                            none)
                                        else
                                          none)
                                      else
                                        rec6 ((v6aa, ()), (v6ba, (wrapI .i64 (r7bbbbba + 1), (r7bbba, (r7bbbba, (r7bba, ()))))))))
                                    else
                                      none)
                                  else
                                    some ((v6ba, (v6bbbbba, (0, ()))), ((), ()))))
                                n ((x0.getD 0 0, ()), ([0], (1, (v1ba, (v2ba, (v5ba, ()))))))
                              else
                                none)
noncomputable def K_bestM (n : Nat) (x0 : List Int) (v1ba : Int) (v2ba : List (List Bool)) : Option ((List Int × (Int × (Int × Unit))) × (Unit × Unit)) :=
  (bif inB 0 x0.length then
                          loopN (fun rec5 => fun
                          | ((v5aa, ()), (v5ba, ())) =>
                            (bif decide ((v5aa ≤ v1ba)) then
                              (bif inB 1 v2ba.length then
                                (bif inB 0 x0.length then
                                  (bif inB (wrapI .i64 (v5aa - x0.getD 0 0)) ((v2ba.getD 1 []).length) then
                                    (bif (v2ba.getD 1 []).getD ((wrapI .i64 (v5aa - x0.getD 0 0)).toNat) false then
                                      rec5 ((wrapI .i64 (v5aa + 1), ()), ((bif decide (((bif decide ((v5aa < wrapI .i64 (v1ba - v5aa))) then wrapI .i64 (v1ba - v5aa) else v5aa) < v5ba)) then (bif decide ((v5aa < wrapI .i64 (v1ba - v5aa))) then wrapI .i64 (v1ba - v5aa) else v5aa) else v5ba), ()))
                                    else
                                      rec5 ((wrapI .i64 (v5aa + 1), ()), (v5ba, ())))
                                  else
                                    none)
                                else
                                  none)
                              else
                                none)
                            else
                              K_chooseM n x0 v1ba v2ba v5ba))
                          n ((x0.getD 0 0, ()), (v1ba, ()))
                        else
                          none)
theorem inB_0 {n : Nat} (h : 0 < n) : inB 0 n = true := inB_nat (i := 0) h
theorem reachN_eq {l : List Int} {N best i s : Nat} (hl : l.length ≤ 30) (hN : N ≤ 30000) (hb : best ≤ N) (hi : i < l.length) (hs : s ≤ 60000) :
    S_reachR (s : Int) (best : Int) (N : Int) (tabL N l) (i : Int) = some ((reachN (rowL N (l.drop (i + 1))) N best s, ()), ((), ((best : Int), ((N : Int), (tabL N l, ((i : Int), ())))))) := by
  have w1 : wrapI .i64 ((i : Int) + 1) = ((i + 1 : Nat) : Int) := (wrap64 (by omega) (by omega)).trans (by omega)
  have w2 : wrapI .i64 ((N : Int) - (best : Int)) = ((N - best : Nat) : Int) := (wrap64 (by omega) (by omega)).trans (by omega)
  have key : ∀ t : Nat, t ≤ N → S_chk1 (s : Int) (t : Int) (tabL N l) (i : Int) = some (decide (s ≤ t) && (rowL N (l.drop (i + 1))).getD (t - s) false) := by
    intro t ht
    unfold S_chk1
    by_cases h : s ≤ t
    · have w3 : wrapI .i64 ((t : Int) - (s : Int)) = ((t - s : Nat) : Int) := (wrap64 (by omega) (by omega)).trans (by omega)
      rw [decide_eq_true (show (s : Int) ≤ (t : Int) by omega), w1, w3, Int.toNat_natCast, tabL_at (by omega), decide_eq_true h]
      rw [inB_nat (show i + 1 < (tabL N l).length by rw [tabL_length]; omega), inB_nat (show t - s < (rowL N (l.drop (i + 1))).length by rw [rowL_length]; omega)]
      rfl
    · rw [decide_eq_false (show ¬ (s : Int) ≤ (t : Int) by omega), decide_eq_false h]
      rfl
  unfold S_reachR S_reach
  rw [w2, key best hb, key (N - best) (by omega)]
  unfold reachN
  cases decide (s ≤ best) && (rowL N (l.drop (i + 1))).getD (best - s) false <;> cases decide (s ≤ N - best) && (rowL N (l.drop (i + 1))).getD (N - best - s) false <;> rfl
theorem done_eq {N best s : Nat} : decide ((bif decide ((s : Int) < ((N - s : Nat) : Int)) then ((N - s : Nat) : Int) else (s : Int)) = (best : Int)) = doneN N best s := by
  unfold doneN
  by_cases h : s < N - s
  · rw [decide_eq_true h, decide_eq_true (show (s : Int) < ((N - s : Nat) : Int) by omega)]
    exact decide_eq_decide.2 (by simp only [cond_true]; omega)
  · rw [decide_eq_false h, decide_eq_false (show ¬ (s : Int) < ((N - s : Nat) : Int) by omega)]
    exact decide_eq_decide.2 (by simp only [cond_false]; omega)
theorem choose_done {N best s : Nat} (h : doneN N best s = true) : ∀ (r : List Int) (i : Nat) (out : List Int), chooseL N best r i s out = out
  | [], _, _ => rfl
  | a :: r, i, out => by rw [chooseL, h, cond_true]
theorem choose_eq {l : List Int} {N best : Nat} {n : Nat} (hl : l.length ≤ 30) (ha : ∀ a, a ∈ l → 0 ≤ a ∧ a ≤ 1000) (hN : N ≤ 30000) (hb : best ≤ N) (hh : N ≤ 2 * best) (h0 : 0 < l.length) (hr : reachN (rowL N (l.drop 1)) N best l[0].toNat = true) (hn : 40 < n) :
    K_chooseM n l (N : Int) (tabL N l) (best : Int) = some ((chooseL N best (l.drop 1) 1 l[0].toNat [0], (best : Int), 0, ()), ((), ())) := by
  unfold K_chooseM
  rw [inB_0 h0, cond_true]
  have hl0 : l.getD 0 0 = ((l[0].toNat : Nat) : Int) := by
    have := ha _ (List.getElem_mem h0)
    rw [getD_at h0]; omega
  rw [hl0]
  refine loop_meas (fun x => ∃ (i s : Nat) (out : List Int), 1 ≤ i ∧ i ≤ l.length ∧ out.length ≤ i ∧ s ≤ N ∧ reachN (rowL N (l.drop i)) N best s = true ∧ chooseL N best (l.drop i) i s out = chooseL N best (l.drop 1) 1 l[0].toNat [0] ∧ x = (((s : Int), ()), (out, ((i : Int), ((N : Int), (tabL N l, ((best : Int), ()))))))) (fun x => l.length - x.2.2.1.toNat) _ ?_ n _ ⟨1, l[0].toNat, [0], Nat.le_refl _, h0, Nat.le_refl _, reach_le hb hr, hr, rfl, rfl⟩ (by show l.length - _ < n; omega)
  rintro _ ⟨i, s, out, i1, i2, o1, s1, hq, hc, rfl⟩
  have wN : wrapI .i64 ((N : Int) - (s : Int)) = ((N - s : Nat) : Int) := (wrap64 (by omega) (by omega)).trans (by omega)
  cases hd : doneN N best s with
  | true =>
    left
    intro rec
    rw [choose_done hd] at hc
    simp only [wN, done_eq, hd, Bool.not_true, cond_false]
    rw [hc]
  | false =>
    right
    have hi : i < l.length := by
      rcases Nat.lt_or_ge i l.length with h | h
      · exact h
      · have e : i = l.length := by omega
        rw [e, List.drop_length] at hq
        rw [reach_nil hb hh hq] at hd
        cases hd
    have hai := ha _ (List.getElem_mem hi)
    have wi : wrapI .i64 ((i : Int) + 1) = ((i + 1 : Nat) : Int) := (wrap64 (by omega) (by omega)).trans (by omega)
    have ws : wrapI .i64 ((s : Int) + l[i]) = ((s + l[i].toNat : Nat) : Int) := (wrap64 (by omega) (by omega)).trans (by omega)
    have hre := reachN_eq (l := l) (N := N) (best := best) (i := i) (s := s + l[i].toNat) hl hN hb hi (by omega)
    rw [List.drop_eq_getElem_cons hi] at hq hc
    rw [chooseL, hd, cond_false] at hc
    have ho : decide (out.length + 1 ≤ 4294967296) = true := decide_eq_true (by omega)
    cases hR : reachN (rowL N (l.drop (i + 1))) N best (s + l[i].toNat) with
    | true =>
      rw [hR, cond_true] at hc
      refine ⟨_, ⟨i + 1, s + l[i].toNat, out ++ [(i : Int)], by omega, hi, by simp; omega, reach_le hb hR, hR, hc, rfl⟩, ?_, fun rec => ?_⟩
      · show l.length - (((i + 1 : Nat) : Int)).toNat < l.length - ((i : Nat) : Int).toNat
        rw [Int.toNat_natCast, Int.toNat_natCast]; omega
      · simp only [wN, done_eq, hd, Bool.not_false, cond_true, inB_nat hi, getD_lt hi, ws, hre, hR, Option.bind_some, ho, wi]
    | false =>
      rw [hR, cond_false] at hc
      refine ⟨_, ⟨i + 1, s, out, by omega, hi, by omega, s1, reach_skip hb hq hR, hc, rfl⟩, ?_, fun rec => ?_⟩
      · show l.length - (((i + 1 : Nat) : Int)).toNat < l.length - ((i : Nat) : Int).toNat
        rw [Int.toNat_natCast, Int.toNat_natCast]; omega
      · simp only [wN, done_eq, hd, Bool.not_false, cond_true, cond_false, inB_nat hi, getD_lt hi, ws, hre, hR, Option.bind_some, ho, wi]
theorem bestK_eq {l : List Int} {N : Nat} {n : Nat} (hN : N ≤ 30000) (ha : ∀ a, a ∈ l → 0 ≤ a ∧ a ≤ (N : Int)) (h0 : 0 < l.length) (hn : N + 40 < n) :
    K_bestM n l (N : Int) (tabL N l) = K_chooseM n l (N : Int) (tabL N l) ((bestTo N l[0].toNat (rowL N (l.drop 1)) (N + 1) : Nat) : Int) := by
  unfold K_bestM
  have ha0 := ha _ (List.getElem_mem h0)
  have hl0 : l.getD 0 0 = ((l[0].toNat : Nat) : Int) := by rw [getD_at h0]; omega
  rw [inB_0 h0, cond_true, hl0]
  generalize hA : l[0].toNat = a
  have haN : a ≤ N := by omega
  have g1 : (tabL N l).getD 1 [] = rowL N (l.drop 1) := tabL_at h0
  have i1 : inB 1 (tabL N l).length = true := inB_nat (i := 1) (by rw [tabL_length]; omega)
  refine loop_meas (fun x => ∃ k : Nat, k + a ≤ N + 1 ∧ x = ((((k + a : Nat) : Int), ()), (((bestTo N a (rowL N (l.drop 1)) k : Nat) : Int), ()))) (fun x => N + 1 - x.1.1.toNat) _ ?_ n _ ⟨0, by omega, by rw [Nat.zero_add]; rfl⟩ (by show N + 1 - _ < n; omega)
  rintro _ ⟨k, hk, rfl⟩
  by_cases h : k + a ≤ N
  · right
    have d1 : decide (((k + a : Nat) : Int) ≤ (N : Int)) = true := decide_eq_true (by omega)
    have w1 : wrapI .i64 (((k + a : Nat) : Int) - (a : Int)) = ((k : Nat) : Int) := (wrap64 (by omega) (by omega)).trans (by omega)
    have w2 : wrapI .i64 (((k + a : Nat) : Int) + 1) = ((k + 1 + a : Nat) : Int) := (wrap64 (by omega) (by omega)).trans (by omega)
    have w3 : wrapI .i64 ((N : Int) - ((k + a : Nat) : Int)) = ((N - (k + a) : Nat) : Int) := (wrap64 (by omega) (by omega)).trans (by omega)
    have i2 : inB (k : Int) (rowL N (l.drop 1)).length = true := inB_nat (by rw [rowL_length]; omega)
    refine ⟨((((k + 1 + a : Nat) : Int), ()), (((bestTo N a (rowL N (l.drop 1)) (k + 1) : Nat) : Int), ())), ⟨k + 1, by omega, rfl⟩, ?_, fun rec => ?_⟩
    · show N + 1 - (((k + 1 + a : Nat) : Int)).toNat < N + 1 - (((k + a : Nat) : Int)).toNat
      rw [Int.toNat_natCast, Int.toNat_natCast]; omega
    · rw [bestTo]
      simp only [d1, i1, g1, w1, w2, w3, i2, cond_true, Int.toNat_natCast, decide_eq_true h, Bool.and_true]
      cases (rowL N (l.drop 1)).getD k false with
      | false => simp only [cond_false]
      | true =>
        simp only [cond_true]
        congr 3
        unfold bestM
        generalize bestTo N a (rowL N (l.drop 1)) k = b
        by_cases c1 : k + a < N - (k + a)
        · rw [decide_eq_true c1, decide_eq_true (show ((k + a : Nat) : Int) < ((N - (k + a) : Nat) : Int) by omega)]
          simp only [cond_true]
          by_cases c2 : N - (k + a) < b
          · rw [decide_eq_true c2, decide_eq_true (show ((N - (k + a) : Nat) : Int) < (b : Int) by omega)]; rfl
          · rw [decide_eq_false c2, decide_eq_false (show ¬ ((N - (k + a) : Nat) : Int) < (b : Int) by omega)]; rfl
        · rw [decide_eq_false c1, decide_eq_false (show ¬ ((k + a : Nat) : Int) < ((N - (k + a) : Nat) : Int) by omega)]
          simp only [cond_false]
          by_cases c2 : k + a < b
          · rw [decide_eq_true c2, decide_eq_true (show ((k + a : Nat) : Int) < (b : Int) by omega)]; rfl
          · rw [decide_eq_false c2, decide_eq_false (show ¬ ((k + a : Nat) : Int) < (b : Int) by omega)]; rfl
  · left
    intro rec
    have d1 : decide (((k + a : Nat) : Int) ≤ (N : Int)) = false := decide_eq_false (by omega)
    simp only [d1, cond_false]
    have : k = N + 1 - a := by omega
    rw [this, bestTo_end]
theorem add_one {a : Int} {i s : Nat} (hw : S_within a 0 1000 = true) (hi : i ≤ 30) (hs : s ≤ i * 1000) : addF a i s ≤ (i + 1) * 1000 ∧ wrapI .i64 ((s : Int) + a) = ((addF a i s : Nat) : Int) := by
  simp only [S_within, Bool.and_eq_true, decide_eq_true_eq] at hw
  unfold addF
  exact ⟨by omega, (wrap64 (by omega) (by omega)).trans (by omega)⟩
theorem ok_mount_Balanced (x0 : List Int) (hok : OkA I_mount_Balanced.args (x0, ())) : ∃ n, bodyE ty T_mount_Balanced n I_mount_Balanced (x0, ()) = some (((S_bal x0).1, (S_bal x0).2.1, (S_bal x0).2.2, ()), ((), ())) := ⟨sumL x0 + 100, by
  rw [B_mount_Balanced_eq]
  unfold B_mount_Balanced S_bal
  by_cases h30 : (30 : Int) < (x0.length : Int)
  · rw [decide_eq_true h30]; rfl
  · rw [decide_eq_false h30]
    simp only [cond_false]
    have h1 : x0.length ≤ 30 := by omega
    have hm : (30 : Nat) ≤ maxLen := by decide
    refine (loop_listI (l := x0) (fun i (s : Nat) => ((i, ()), ((s : Int), ()))) (fun i s => s ≤ i * 1000) (fun a i s => bif S_within a 0 1000 then .inl (addF a i s) else .inr (some ((([] : List Int), (0 : Int), (1 : Int), ()), ((), ())))) _ (fun i hi s hs => ⟨fun s' e => ?_, fun rec => ?_⟩) (fun s _ rec => by simp only [lt_self, cond_false]; exact rfl) (by omega) (s := 0) (Nat.zero_le _)).trans ((goL_guard x0 0 0).trans ?_)
    · cases hw : S_within x0[i] 0 1000 with
      | false => rw [hw] at e; cases e
      | true => rw [hw] at e; cases e; exact (add_one hw (by omega) hs).1
    · simp only [lt_nat hi, inB_nat hi, getD_lt hi, succ64 hi (Nat.le_trans h1 hm), cond_true]
      cases hw : S_within x0[i] 0 1000 with
      | false => rfl
      | true => simp only [Bool.not_true, cond_false, cond_true, (add_one hw (by omega) hs).2]
    · cases hall : x0.all (fun a => S_within a 0 1000) with
      | false => rfl
      | true =>
        simp only [cond_true]
        have hk : okL x0 = true := by unfold okL; rw [hall, decide_eq_true h1]; rfl
        obtain ⟨_, h2⟩ := ok_of hk
        have hN := sum_30000 hk
        have e : foldI addF x0 0 0 = sumL x0 := rfl
        rw [e]
        by_cases h0 : x0.length = 0
        · cases x0 with
          | nil => rfl
          | cons => cases h0
        · have h0 : 0 < x0.length := by omega
          rw [decide_eq_false (show ¬ ((x0.length : Nat) : Int) = 0 by omega)]
          have hs : ∀ a, a ∈ x0 → 0 ≤ a ∧ a ≤ ((sumL x0 : Nat) : Int) := fun a ha => ⟨(h2 a ha).1, by have := sum_in ha; omega⟩
          have hbal : balL x0 = (chooseL (sumL x0) (bestTo (sumL x0) x0[0].toNat (rowL (sumL x0) (x0.drop 1)) (sumL x0 + 1)) (x0.drop 1) 1 x0[0].toNat [0], ((bestTo (sumL x0) x0[0].toNat (rowL (sumL x0) (x0.drop 1)) (sumL x0 + 1) : Nat) : Int), (0 : Int)) := by
            cases x0 with
            | nil => cases h0
            | cons a r => rfl
          have hf : sumL (x0.drop 1) = sumL x0 - x0[0].toNat ∧ x0[0].toNat ≤ sumL x0 := by
            cases x0 with
            | nil => cases h0
            | cons a r => rw [sum_cons]; exact ⟨by simp, by simp⟩
          rw [hbal]
          generalize sumL x0 = N at *
          have w1 : wrapI .i64 (((x0.length : Nat) : Int) + 1) = ((x0.length + 1 : Nat) : Int) := (wrap64 (by omega) (by omega)).trans (by omega)
          have w2 : wrapI .i64 ((N : Int) + 1) = ((N + 1 : Nat) : Int) := (wrap64 (by omega) (by omega)).trans (by omega)
          have d1 : decide (0 ≤ ((x0.length + 1 : Nat) : Int)) = true := decide_eq_true (by omega)
          have d2 : decide (((x0.length + 1 : Nat) : Int) ≤ 4294967296) = true := decide_eq_true (by omega)
          have d3 : decide (0 ≤ ((N + 1 : Nat) : Int)) = true := decide_eq_true (by omega)
          have d4 : decide (((N + 1 : Nat) : Int) ≤ 4294967296) = true := decide_eq_true (by omega)
          have d5 : ∀ k : Int, decide (k ≤ k) = true := fun k => decide_eq_true (Int.le_refl k)
          have i1 : inB ((x0.length : Nat) : Int) (x0.length + 1) = true := inB_nat (by omega)
          have i2 : inB 0 (N + 1) = true := inB_nat (i := 0) (by omega)
          have g : (((List.replicate (α := List Bool) (x0.length + 1) []).set x0.length (List.replicate (α := Bool) (N + 1) false)).getD x0.length []) = List.replicate (N + 1) false := by rw [getD_set (by simp), if_pos rfl]
          have g2 := tab_init x0.length N
          rw [g] at g2
          have hb := bestTo_in N x0[0].toNat (rowL N (x0.drop 1)) hf.2 (by rw [← hf.1]; exact row_full N _ (by omega)) (N + 1)
          simp only [cond_false, w1, w2, d1, d2, d3, d4, d5, Int.toNat_natCast, List.length_replicate, List.length_set, i1, i2, g, Bool.and_self, cond_true]
          refine (tab_loop S_cloneB (fun _ => cloneB_eq) x0 h1 N hN hs _ (by simp) g2 (fun T => K_bestM (N + 100) x0 (N : Int) T) _ (by omega)).trans ?_
          rw [bestK_eq hN hs h0 (by omega), choose_eq h1 h2 hN hb.1 hb.2.1 h0 hb.2.2 (by omega)]⟩
noncomputable def E_mount_Balanced : Entry Try.prog := Entry.of tok T_mount_Balanced I_mount_Balanced it_mount_Balanced (fun (x0, ()) => some (((S_bal x0).1, (S_bal x0).2.1, (S_bal x0).2.2, ()), ((), ()))) (fun (x0, ()) r hok h => by cases h; exact ok_mount_Balanced x0 hok)

end Go.Proofs.Yteepfoiiidpchaa
namespace Go.Proofs.Yteepfoiiidpchaa
open Go Go.VM
/-! ### etchhouse.etchhouselaw10.awake -/
noncomputable def I_etchhouselaw10_awake : Inst := ⟨10, Try.f10, .two (.reg []) (.two (.reg [(1, 0)]) (.two (.reg []) (.leaf))), .nil, (.cons .flat .bool .nil)⟩
theorem it_etchhouselaw10_awake : InTab Try.prog I_etchhouselaw10_awake := ⟨Try.func10, by kernel_rfl, rfl⟩
noncomputable def T_etchhouselaw10_awake : Nat → Entry Try.prog := nth (Entry.no Try.f0) [E_mount_Balanced]
noncomputable def B_etchhouselaw10_awake  : Option (((Bool × Unit) × Unit)) :=
  some ((true, ()), ())
theorem B_etchhouselaw10_awake_eq (n : Nat)  : bodyE ty T_etchhouselaw10_awake n I_etchhouselaw10_awake () = B_etchhouselaw10_awake  := by kernel_rfl

end Go.Proofs.Yteepfoiiidpchaa
namespace Go.Proofs.Yteepfoiiidpchaa
open Go Go.VM
def S_etchhouselaw10_awake  : Bool := true
theorem ok_etchhouselaw10_awake  (hok : OkA I_etchhouselaw10_awake.args ()) : ∃ n, bodyE ty T_etchhouselaw10_awake n I_etchhouselaw10_awake () = some ((S_etchhouselaw10_awake, ()), ()) := ⟨0, by rw [B_etchhouselaw10_awake_eq]; rfl⟩
noncomputable def E_etchhouselaw10_awake : Entry Try.prog := Entry.of tok T_etchhouselaw10_awake I_etchhouselaw10_awake it_etchhouselaw10_awake (fun () => some ((S_etchhouselaw10_awake, ()), ())) (fun () r hok h => by cases h; exact ok_etchhouselaw10_awake  hok)

end Go.Proofs.Yteepfoiiidpchaa
namespace Go.Proofs.Yteepfoiiidpchaa
open Go Go.VM
/-! ### etchhouse.etchhouselaw10.MountBestMatchesSpec -/
noncomputable def I_etchhouselaw10_MountBestMatchesSpec : Inst := ⟨5, Try.f5, .two (.reg []) (.two (.reg [(2, 0)]) (.two (.reg [(2, 1)]) (.two (.two (.reg []) (.two (.two (.reg []) (.leaf)) (.leaf))) (.two (.reg [(1, 2)]) (.two (.reg [(1, 3)]) (.two (.reg [(11, 4), (14, 5)]) (.leaf))))))), (.cons (.pv (.sl (.pair .str (.pair i (.pair i .unit))))) (.cons (.pv (.sl i)) .nil)), (.cons .flat .bool .nil)⟩
theorem it_etchhouselaw10_MountBestMatchesSpec : InTab Try.prog I_etchhouselaw10_MountBestMatchesSpec := ⟨Try.func5, by kernel_rfl, rfl⟩
noncomputable def T_etchhouselaw10_MountBestMatchesSpec : Nat → Entry Try.prog := nth (Entry.no Try.f0) [E_mount_Makespan, E_etchhouseref10_Makespan, E_mount_Best, E_etchhouseref10_Best, E_slices_Equal_int_int, E_etchhouselaw10_awake]
noncomputable def B_etchhouselaw10_MountBestMatchesSpec (x0 : List (ByteArray × (Int × (Int × Unit)))) (x1 : List Int) : Option (((Bool × Unit) × (Unit × (Unit × Unit)))) :=
  ((B_mount_Makespan x0 x1).bind fun ((r1aa, (r1aba, ())), ((), ((), ()))) =>
  ((B_etchhouseref10_Makespan x0 x1).bind fun ((r2aa, (r2aba, ())), ((), ((), ()))) =>
  (bif (!(decide ((r1aba = r2aba)))) then
    some ((false, ()), ((), ((), ())))
  else
    (bif (!(decide ((r1aa = r2aa)))) then
      some ((false, ()), ((), ((), ())))
    else
      ((B_mount_Best x0).bind fun ((r3aa, (r3aba, (r3abba, ()))), ((), ())) =>
      ((B_etchhouseref10_Best x0).bind fun ((r4aa, (r4aba, (r4abba, ()))), ((), ())) =>
      (bif decide ((r3abba = r4abba)) then
        (bif decide ((r3aba = r4aba)) then
          (bif decide ((r3aa = r4aa)) then
            some ((S_etchhouselaw10_awake, ()), ((), ((), ())))
          else
            some ((false, ()), ((), ((), ()))))
        else
          some ((false, ()), ((), ((), ()))))
      else
        some ((false, ()), ((), ((), ()))))))))))
theorem B_etchhouselaw10_MountBestMatchesSpec_eq (n : Nat) (x0 : List (ByteArray × (Int × (Int × Unit)))) (x1 : List Int) : bodyE ty T_etchhouselaw10_MountBestMatchesSpec n I_etchhouselaw10_MountBestMatchesSpec (x0, (x1, ())) = B_etchhouselaw10_MountBestMatchesSpec x0 x1 := by kernel_rfl

end Go.Proofs.Yteepfoiiidpchaa
namespace Go.Proofs.Yteepfoiiidpchaa
open Go Go.VM
noncomputable def E_etchhouselaw10_MountBestMatchesSpec : Entry Try.prog := Entry.of tok T_etchhouselaw10_MountBestMatchesSpec I_etchhouselaw10_MountBestMatchesSpec it_etchhouselaw10_MountBestMatchesSpec (fun x => B_etchhouselaw10_MountBestMatchesSpec x.1 x.2.1) (fun (a0, a1, ()) r _ h => ⟨0, (B_etchhouselaw10_MountBestMatchesSpec_eq 0 a0 a1).trans h⟩)

end Go.Proofs.Yteepfoiiidpchaa
namespace Go.Proofs.Yteepfoiiidpchaa
open Go Go.VM
namespace LMountBestMatchesSpec
theorem mk_same (l : List Lot) (z : List Int) : S_mkO_etchhouseref10_makespan l z = S_mkO_mount_makespan l z := rfl
theorem ord_same (z : List Int) (n : Int) : S_isOrdO_etchhouseref10_IsOrder z n = S_isOrdO_mount_isOrder z n := rfl
theorem span_same (x0 : List Lot) (x1 : List Int) : B_etchhouseref10_Makespan x0 x1 = B_mount_Makespan x0 x1 := rfl
open Classical in
theorem span_some (x0 : List Lot) (x1 : List Int) : ∃ n f, B_mount_Makespan x0 x1 = some ((n, (f, ())), ((), ((), ()))) := by
  unfold B_mount_Makespan
  by_cases hc : S_lots x0 200 = 0
  · obtain ⟨hG, hn⟩ := lots_good hc (by omega)
    have e1 : S_isOrdO_mount_isOrder x1 ((x0.length : Nat) : Int) = some ((S_isOrd x1 ((x0.length : Nat) : Int), ()), ((), ((), ()))) := by
      unfold S_isOrdO_mount_isOrder
      rw [decide_eq_true (show (0 : Int) ≤ ((x0.length : Nat) : Int) by omega), decide_eq_true (show ((x0.length : Nat) : Int) ≤ 4294967296 by omega)]; rfl
    rw [decide_eq_true hc, e1]
    simp only [Bool.not_true, cond_false, Option.bind_some]
    cases ho : S_isOrd x1 ((x0.length : Nat) : Int) with
    | false => exact ⟨_, _, rfl⟩
    | true =>
      have hO : IsOrd x0.length x1 := by
        unfold S_isOrd at ho
        rw [Int.toNat_natCast] at ho
        exact of_decide_eq_true ho
      have e2 : S_mkO_mount_makespan x0 x1 = some ((mkZ x0 x1, ()), ((), ((), ()))) := by
        unfold S_mkO_mount_makespan
        rw [if_pos ⟨hG, by rw [hO.len]; exact hG.len, hO.at_⟩]
      rw [e2]
      exact ⟨_, _, rfl⟩
  · rw [decide_eq_false hc]; exact ⟨_, _, rfl⟩
theorem best_both (x0 : List Lot) : ∃ z n f, B_mount_Best x0 = some ((z, (n, (f, ()))), ((), ())) ∧ B_etchhouseref10_Best x0 = some ((z, (n, (f, ()))), ((), ())) := by
  unfold B_mount_Best B_etchhouseref10_Best
  by_cases hc : S_lots x0 8 = 0
  · obtain ⟨hG, hn⟩ := lots_good hc (by omega)
    have hw : OnWay x0 [] := ⟨hG, by omega, List.nodup_nil, fun k hk => nomatch hk⟩
    have e1 : S_orF ([], (((x0.length : Nat) : Int), ((x0, ((-1), ([], ()))), ()))) = some ((), ((), ((), (resO [] (x0, ((-1), ([], ()))), ())))) := by
      unfold S_orF; rw [if_pos ⟨hw, rfl⟩]
    have e2 : S_goF ((x0, ([], ([], ((-1), ())))), ()) = some ((), (resM (x0, ([], ([], ((-1), ())))), ())) := by
      unfold S_goF; rw [if_pos hw]
    rw [decide_eq_true hc, e1, e2]
    exact ⟨_, _, _, rfl, rfl⟩
  · rw [decide_eq_false hc]; exact ⟨_, _, _, rfl, rfl⟩
theorem law (x0 : List Lot) (x1 : List Int) : B_etchhouselaw10_MountBestMatchesSpec x0 x1 = some ((true, ()), ((), ((), ()))) := by
  obtain ⟨n, f, e1⟩ := span_some x0 x1
  obtain ⟨z, m, g, e2, e3⟩ := best_both x0
  unfold B_etchhouselaw10_MountBestMatchesSpec
  rw [span_same, e1, e2, e3]
  simp only [Option.bind_some, decide_true, Bool.not_true, cond_false, cond_true]
  rfl

end LMountBestMatchesSpec
end Go.Proofs.Yteepfoiiidpchaa
