/- MountPicksTakeWhatThereIs holds: for every input of bulk at most 1048576 it returns true and leaves its arguments as they read; what the listed tables read as is tied to the text by the given card; no further condition. -/
import Derived.Test.YtjemgnhklipcjaaDoorCards
import Derived.Test.YtjemgnhklipcjaaDoorTie
import Derived.WalkKit
import Derived.ProofKit
import Derived.OpenShut
import Derived.Deep.DeepHandedRow
import Derived.Lib.LaidTab
import Derived.Test.YtjemgnhklipcjaaDoorFnMountPicksTakeWhatThereIs1
namespace Go.Proofs.YtjemgnhklipcjaaDoor
open Go Go.VM Go.ChangeShapes Go.WideShapes Go.ChangeAt Go.RowKit
namespace LMountPicksTakeWhatThereIs
theorem own : ownKnob Tryd.prog.godebug = none := by kernel_rfl
theorem laidOut : laidOutB Tryd.prog = true := by kernel_rfl
theorem one_le {H : Type} (d : DataW H) : 1 ≤ Rows.uptoBulk d := by
  cases d with
  | lit l => cases l <;> simp [Rows.uptoBulk]
  | nil => simp [Rows.uptoBulk]
  | ptr d => simp [Rows.uptoBulk]
  | slice elems spare => simp [Rows.uptoBulk]
  | agg parts => simp [Rows.uptoBulk]
  | iface t d => simp [Rows.uptoBulk]
  | map entries => simp [Rows.uptoBulk]
  | held h => simp [Rows.uptoBulk]
theorem isBulk {H : Type} : IsBulk (H := H) Rows.uptoBulk Rows.uptoBulkAll := ⟨fun b => by simp only [Rows.uptoBulk], fun e s => by simp only [Rows.uptoBulk], fun p => by simp only [Rows.uptoBulk], by simp only [Rows.uptoBulkAll], fun d r => by simp only [Rows.uptoBulkAll], one_le⟩
theorem bulk_app {H : Type} : ∀ (l r : List (DataW H)), Rows.uptoBulkAll l ≤ Rows.uptoBulkAll (l ++ r)
  | [], r => by simp only [Rows.uptoBulkAll]; omega
  | x :: l, r => by
    have := bulk_app l r
    simp only [List.cons_append, Rows.uptoBulkAll]; omega
theorem inst {M : Nat} (hM : M ≤ 1048576) : ∀ x, FineAll [(.sl (.pair .str (.pair i (.pair i (.pair i (.pair .str .unit)))))), (.sl (.pair .str (.pair .str (.pair (.pair i (.pair i .unit)) (.pair i (.pair .bool .unit)))))), (.sl (.pair i (.pair .str (.pair i .unit)))), (.sl (.pair .str (.pair .str .unit))), i] x → SmlAll M [(.sl (.pair .str (.pair i (.pair i (.pair i (.pair .str .unit)))))), (.sl (.pair .str (.pair .str (.pair (.pair i (.pair i .unit)) (.pair i (.pair .bool .unit)))))), (.sl (.pair i (.pair .str (.pair i .unit)))), (.sl (.pair .str (.pair .str .unit))), i] x → ∃ o, InstOK Tryd.prog ⟨5, Tryd.f5, .two (.reg []) (.two (.reg [(5, 0)]) (.two (.two (.reg []) (.two (.two (.reg [(9, 1)]) (.leaf)) (.leaf))) (.two (.two (.reg []) (.two (.two (.reg []) (.leaf)) (.leaf))) (.two (.reg []) (.two (.two (.reg []) (.one (.loop ⟨[(63, .pv i)], [(14, ⟨(.own .flat), (.sl i), false, false⟩)], [1, 2, 12, 14, 61, 62], [12, 11]⟩ (.two (.reg []) (.two (.two (.leaf) (.leaf)) (.two (.one (.two (.reg []) (.two (.two (.draw [] [0, 1, 2, 3, 4, 5, 6, 7, 8, 9, 10, 11, 12, 13, 14, 15, 16, 17, 18, 19, 20] [16]) (.two (.two (.reg []) (.leaf)) (.leaf))) (.two (.two (.reg []) (.one (.loop ⟨[(91, .pv i)], [(14, ⟨(.own .flat), (.sl i), false, false⟩)], [1, 2, 12, 14, 16, 61, 62, 63, 77, 78, 79, 80, 81, 82, 83, 84, 85, 86, 87, 89, 90], [12, 16, 11]⟩ (.two (.reg []) (.two (.two (.leaf) (.leaf)) (.two (.one (.two (.reg []) (.two (.reg []) (.two (.two (.reg []) (.two (.reg []) (.two (.two (.reg []) (.leaf)) (.leaf)))) (.leaf))))) (.reg []))))))) (.two (.reg [(7, 2)]) (.two (.two (.reg []) (.leaf)) (.leaf))))))) (.reg []))))))) (.two (.two (.reg []) (.one (.loop ⟨[(126, .pv i)], [], [12, 14, 124, 125], [12, 14]⟩ (.two (.reg []) (.two (.two (.leaf) (.leaf)) (.two (.one (.two (.reg []) (.two (.draw [] [0, 1, 2, 3, 4, 5, 6, 7, 8, 9, 10, 11, 12, 13, 14, 15, 16, 17, 18, 19, 20, 21, 22, 23, 24, 25, 26, 27, 28, 29, 30, 31, 32, 33, 34, 35, 36, 37, 38, 39, 40] [20, 12, 14]) (.two (.two (.reg []) (.leaf)) (.leaf))))) (.reg []))))))) (.two (.reg [(0, 1)]) (.leaf)))))))), pvs [(.sl (.pair .str (.pair i (.pair i (.pair i (.pair .str .unit)))))), (.sl (.pair .str (.pair .str (.pair (.pair i (.pair i .unit)) (.pair i (.pair .bool .unit)))))), (.sl (.pair i (.pair .str (.pair i .unit)))), (.sl (.pair .str (.pair .str .unit))), i], .cons .flat .bool .nil⟩ x ((true, ()), o) := fun (x0, x1, x2, x3, x4, ()) hf hs =>
  ⟨((), (), (), (), (), ()), RunOK.inst it_etchhouselaw10_MountPicksTakeWhatThereIs (E_etchhouselaw10_MountPicksTakeWhatThereIs.ok (x0, x1, x2, x3, x4, ()) ((true, ()), ((), (), (), (), (), ())) (law x0 x1 x2 x3 x4 hM hf hs))⟩
set_option maxRecDepth 100000 in
theorem contract (H : Type) (enc : TypeId × Value → H) (W : World) (base : Nat) (args : Array Value) (ds gs : List (DataW H)) (before : List MemPlace)
    (hval0 : ∀ (j : Nat) t v, Tryd.f5.params[j]? = some t → args[j]? = some v → Value.okWide Tryd.prog W .any base t v)
    (hW : DataW.Whole enc Tryd.prog Tryd.f5.params.toList Rows.mountPicksTakeWhatThereIsSpec.vars false W args.toList ds gs before) (hk : Rows.uptoSmall H (ds ++ gs) = true) :
    Calls Tryd.prog 5 args W fun e W' => ∃ v, e = .returned v ∧ Rows.mountPicksTakeWhatThereIsSpec.post enc Tryd.prog Tryd.f5 false true false false W args v W' := by
  have hval : ∀ (j : Nat) t v, Tryd.f5.params[j]? = some t → args[j]? = some v → Value.okWide Tryd.prog W .any base t v := hval0
  have hW' := hW
  obtain ⟨M, hMe⟩ : ∃ M, M = 1048576 := ⟨_, rfl⟩
  have hM : Rows.uptoBulkAll ds ≤ M := by
    have h1 := bulk_app ds gs
    have h2 : Rows.uptoBulkAll (ds ++ gs) ≤ 1048576 := of_decide_eq_true hk
    omega
  obtain ⟨p, q, hA0, hV, rfl, hfz, hnd⟩ := hW
  have hA : DataW.TrodAll enc Tryd.prog W 0 (fun _ => true) true Tryd.f5.params.toList args.toList ds p := hA0
  rw [Tryd.params5] at hA hval
  obtain ⟨rfl, rfl⟩ := trodVars_none hV
  refine (law_callsS tok isBulk (l := [(.sl (.pair .str (.pair i (.pair i (.pair i (.pair .str .unit)))))), (.sl (.pair .str (.pair .str (.pair (.pair i (.pair i .unit)) (.pair i (.pair .bool .unit)))))), (.sl (.pair i (.pair .str (.pair i .unit)))), (.sl (.pair .str (.pair .str .unit))), i]) (by kernel_rfl) hA hM (fun j t v a b => hval j t v (by simpa using a) (by simpa using b)) (inst (M := M) (by omega))).mono fun e W' ⟨he, bel⟩ => ?_
  subst he
  have back := trodAll_back laidOut bel (by kernel_rfl) hA
  obtain ⟨v0, vs0, d0, ds0, p0, q0, e0, rfl, rfl, h0, r0⟩ := trodAll_cons hA
  obtain ⟨v1, vs1, d1, ds1, p1, q1, rfl, rfl, rfl, h1, r1⟩ := trodAll_cons r0
  obtain ⟨v2, vs2, d2, ds2, p2, q2, rfl, rfl, rfl, h2, r2⟩ := trodAll_cons r1
  obtain ⟨v3, vs3, d3, ds3, p3, q3, rfl, rfl, rfl, h3, r3⟩ := trodAll_cons r2
  obtain ⟨v4, vs4, d4, ds4, p4, q4, rfl, rfl, rfl, h4, r4⟩ := trodAll_cons r3
  obtain ⟨rfl, rfl, rfl⟩ := trodAll_nil r4
  obtain rfl : args = #[v0, v1, v2, v3, v4] := by cases args; simp_all
  exact ⟨_, rfl, _, _, _, [], _, [], hW', trodAll_mk1 (shut_bool Tryd.underlying4 _), back, rfl, bel.frame _, fun h => by cases h⟩
/-- a world for the witness -/
noncomputable def lay1 (w : World) (g : Nat) (v : Array Value) : World :=
  { w with heap := w.heap.modify g fun
      | .cells _ t frozen => .cells v t frozen
      | o => o }
noncomputable def laidWorld (os : Os) : World := lay1 (lay1 (World.holding Tryd.prog os ⟨#[], #[], []⟩) ((Tryd.prog.globalNamed "unicode/utf8.acceptRanges").getD 0) (#[.int .u8 128, .int .u8 191, .int .u8 160, .int .u8 191, .int .u8 128, .int .u8 159, .int .u8 144, .int .u8 191, .int .u8 128, .int .u8 143, .int .u8 0, .int .u8 0, .int .u8 0, .int .u8 0, .int .u8 0, .int .u8 0, .int .u8 0, .int .u8 0, .int .u8 0, .int .u8 0, .int .u8 0, .int .u8 0, .int .u8 0, .int .u8 0, .int .u8 0, .int .u8 0, .int .u8 0, .int .u8 0, .int .u8 0, .int .u8 0, .int .u8 0, .int .u8 0])) ((Tryd.prog.globalNamed "unicode/utf8.first").getD 0) ((Go.Pinned.utf8FirstZ.map fun (n : Nat) => Value.int .u8 (n : Int)).toArray)
theorem laid_met (os : Os) : laidMet Tryd.prog Rows.mountPicksTakeWhatThereIsUptoRow.laid ((laidWorld os).forCall (fun _ _ => 0) ⟨#[], #[.slice none 0 0, .slice none 0 0, .slice none 0 0, .slice none 0 0, .int .i64 0], []⟩).memory :=
  laidMet_of_run' 8 (by kernel_rfl) (by kernel_rfl)
theorem reads (os : Os) {H : Type} (enc : TypeId × Value → H) : ∃ places, DataW.whole enc Tryd.prog ((laidWorld os).forCall (fun _ _ => 0) ⟨#[], #[.slice none 0 0, .slice none 0 0, .slice none 0 0, .slice none 0 0, .int .i64 0], []⟩).memory Tryd.f5.params.toList Rows.mountPicksTakeWhatThereIsSpec.vars false (#[.slice none 0 0, .slice none 0 0, .slice none 0 0, .slice none 0 0, .int .i64 0] : Array Value).toList 8 = some ([.nil, .nil, .nil, .nil, .lit (.int .i64 0)], [], places) :=
  ⟨[], by kernel_rfl⟩
set_option maxRecDepth 100000 in
theorem liftedUpto (os : Os) (started : os.Started) (H : Type) (enc : TypeId × Value → H) (F : Stop.Interp) :
    ReturnsInHanded {} Tryd.checked os 5 .any ((Rows.OpenSpec.upto Rows.mountPicksTakeWhatThereIsSpec).preRow enc Tryd.prog Tryd.f5 Rows.mountPicksTakeWhatThereIsUptoRow.domain false Rows.mountPicksTakeWhatThereIsUptoRow.laid) (((Rows.OpenSpec.upto Rows.mountPicksTakeWhatThereIsSpec).at F).post enc Tryd.prog Tryd.f5 false true false false) := by
  obtain ⟨places, hx⟩ := reads os enc
  refine returnsInHanded_of_row (C := Tryd.checked) (s := Rows.OpenSpec.upto Rows.mountPicksTakeWhatThereIsSpec) own started (by kernel_rfl) Tryd.func5
    (witness_row_at (enc := enc) (C := Tryd.checked) false (laidWorld os) #[.slice none 0 0, .slice none 0 0, .slice none 0 0, .slice none 0 0, .int .i64 0] rfl (by kernel_rfl) (by kernel_rfl) (by kernel_rfl)
      (OpenSpec.preRow_of_cond 8 hx (by kernel_rfl) (fun k hk => by cases hk; kernel_rfl) (by kernel_rfl) (laid_met os))) ?_
  intro W base args ds gs before hval hW _ hcond _ hL _ _
  exact contract H enc W base args ds gs before hval hW (hcond _ rfl)
theorem saidUpto : Rows.MountPicksTakeWhatThereIsUptoSaid :=
  OpenClaim.holds_of_cond 5 Tryd.f5 rfl rfl rfl rfl rfl rfl rfl ⟨rfl, rfl, rfl, rfl, rfl⟩ rfl rfl rfl rfl rfl (by kernel_rfl) Tryd.func5 (by kernel_rfl)
    (of_decide_eq_true (by kernel_rfl)) (by unfold Func.isWrapper; first | (rw [if_pos (by decide +kernel)]; kernel_rfl) | (rw [if_neg (by decide +kernel)]; exact ⟨rfl, rfl⟩))
    (fun os started H enc _ F => by rw [OpenClaim.pre_eq_preRow]; exact liftedUpto os started H enc F)
theorem plain (f : FuncId) (fn : Func) (hf : Tryd.pinned.checked.prog.funcNamed "etchhouse/etchhouselaw10.MountPicksTakeWhatThereIs" = some f) (hfn : Tryd.pinned.checked.prog.funcs[f]? = some fn) :
    false = Tryd.pinned.checked.prog.looks [] ∧ ∀ (j : Nat) t, fn.params[j]? = some t → Tryd.pinned.checked.prog.wantsStandIn t = false := by
  obtain rfl : f = 5 := Option.some.inj ((show Tryd.prog.funcNamed "etchhouse/etchhouselaw10.MountPicksTakeWhatThereIs" = some 5 by kernel_rfl).symm.trans hf) |>.symm
  obtain rfl : fn = Tryd.f5 := (Option.some.inj (Tryd.func5.symm.trans hfn)).symm
  refine ⟨by kernel_rfl, fun j t ht => ?_⟩
  have hall : Tryd.f5.params.toList.all (fun t => !Tryd.prog.wantsStandIn t) = true := by kernel_rfl
  have := List.all_eq_true.1 hall t (Array.mem_toList_iff.2 (Array.mem_of_getElem? ht))
  have h2 : Tryd.prog.wantsStandIn t = false := by simpa using this
  exact h2
theorem card : Rows.MountPicksTakeWhatThereIsUptoCardSaid :=
  Claim7.holds_tied_plain_at .later [] _ _ _ _ saidUpto (fun _ h => by cases h) (by kernel_rfl) (fun _ h => by cases h) mountPicksTakeWhatThereIsUpto_row_tie rfl ⟨rfl, rfl⟩ (by kernel_rfl) rfl plain (by kernel_rfl)
end LMountPicksTakeWhatThereIs
/-- The card, under a short name, for the claim. -/
theorem mountPicksTakeWhatThereIsUpto_holds : Rows.MountPicksTakeWhatThereIsUptoCardSaid := LMountPicksTakeWhatThereIs.card
#print axioms mountPicksTakeWhatThereIsUpto_holds
end Go.Proofs.YtjemgnhklipcjaaDoor
