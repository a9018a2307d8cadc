/-
  DERIVED. GIVEN WITH THE SEED: THE CARDS: each row of YtjemgnhklipcjaaDoorRows.lean that lists a variable, with what it lists TIED to the program's text (the seventh form; the later family's looks); each row that meets fmt, with fmt's text TOLD by the authors' own Lean function (tested against real Go, not proved from fmt's source: count such statements apart). THE CARD IS WHAT COUNTS. Prove the row's statement (the work); the ties are given (YtjemgnhklipcjaaDoorTie.lean); close each card by the builder's one call (the guide's Derived/Test/ToyasCard.lean, 'card_holds'). Laid BY PROGRAM, IN A SANDBOX (cutbox-door.mjs). By AI agents, Wed Nov 11 2026. No macro, syntax, notation, axiom, sorry.
-/
import Derived.Test.YtjemgnhklipcjaaDoorRows
import GoSem.ClaimSeven
namespace Go.Proofs.YtjemgnhklipcjaaDoor
namespace Rows

/-- THE TIED CARD OF 'etchhouselaw10.MountMovedTogether'. -/
def mountMovedTogetherCard : Claim7 := { stood := { row := mountMovedTogetherRow, standIns := [], harness := (true, "7a53d6b647c6f9079b535af6c37acc7e6f28d08b789eaa9e23aa1154d5cda9c1"), looks := false }, kinds := [], alts := [], laidByText := true, laidKinds := [.data, .pinned], laidTests := true, laidLooks := .later }
def MountMovedTogetherCardSaid : Prop := Claim7.holds Tryd.pinned (.plain (OpenSpec.ofChange mountMovedTogetherSpec)) mountMovedTogetherCard

/-- THE TIED CARD OF 'etchhouselaw10.MountTakenMatchesSpec'. -/
def mountTakenMatchesSpecCard : Claim7 := { stood := { row := mountTakenMatchesSpecRow, standIns := [], harness := (true, "7a53d6b647c6f9079b535af6c37acc7e6f28d08b789eaa9e23aa1154d5cda9c1"), looks := false }, kinds := [], alts := [], laidByText := true, laidKinds := [.data, .pinned], laidTests := true, laidLooks := .later }
def MountTakenMatchesSpecCardSaid : Prop := Claim7.holds Tryd.pinned (.plain (OpenSpec.ofChange mountTakenMatchesSpecSpec)) mountTakenMatchesSpecCard

/-- THE TIED CARD OF 'etchhouselaw10.MountPicksTakeWhatThereIs'. -/
def mountPicksTakeWhatThereIsCard : Claim7 := { stood := { row := mountPicksTakeWhatThereIsRow, standIns := [], harness := (true, "7a53d6b647c6f9079b535af6c37acc7e6f28d08b789eaa9e23aa1154d5cda9c1"), looks := false }, kinds := [], alts := [], laidByText := true, laidKinds := [.data, .pinned], laidTests := true, laidLooks := .later }
def MountPicksTakeWhatThereIsCardSaid : Prop := Claim7.holds Tryd.pinned (.plain (OpenSpec.ofChange mountPicksTakeWhatThereIsSpec)) mountPicksTakeWhatThereIsCard

/-- THE TIED CARD OF 'etchhouselaw10.MountPicksMatchSpec'. -/
def mountPicksMatchSpecCard : Claim7 := { stood := { row := mountPicksMatchSpecRow, standIns := [], harness := (true, "7a53d6b647c6f9079b535af6c37acc7e6f28d08b789eaa9e23aa1154d5cda9c1"), looks := false }, kinds := [], alts := [], laidByText := true, laidKinds := [.data, .pinned], laidTests := true, laidLooks := .later }
def MountPicksMatchSpecCardSaid : Prop := Claim7.holds Tryd.pinned (.plain (OpenSpec.ofChange mountPicksMatchSpecSpec)) mountPicksMatchSpecCard

/-- THE TIED CARD OF 'etchhouselaw10.MountOrderIsOne'. -/
def mountOrderIsOneCard : Claim7 := { stood := { row := mountOrderIsOneRow, standIns := [], harness := (true, "7a53d6b647c6f9079b535af6c37acc7e6f28d08b789eaa9e23aa1154d5cda9c1"), looks := false }, kinds := [], alts := [], laidByText := true, laidKinds := [.data, .pinned], laidTests := true, laidLooks := .later }
def MountOrderIsOneCardSaid : Prop := Claim7.holds Tryd.pinned (.plain (OpenSpec.ofChange mountOrderIsOneSpec)) mountOrderIsOneCard

/-- THE TIED CARD OF 'etchhouselaw10.MountChecksMatchSpec'. -/
def mountChecksMatchSpecCard : Claim7 := { stood := { row := mountChecksMatchSpecRow, standIns := [], harness := (true, "7a53d6b647c6f9079b535af6c37acc7e6f28d08b789eaa9e23aa1154d5cda9c1"), looks := false }, kinds := [], alts := [], laidByText := true, laidKinds := [.data, .pinned], laidTests := true, laidLooks := .later }
def MountChecksMatchSpecCardSaid : Prop := Claim7.holds Tryd.pinned (.plain (OpenSpec.ofChange mountChecksMatchSpecSpec)) mountChecksMatchSpecCard

/-- THE TIED CARD OF 'etchhouselaw10.MountOrdersMatchSpec'. -/
def mountOrdersMatchSpecCard : Claim7 := { stood := { row := mountOrdersMatchSpecRow, standIns := [], harness := (true, "7a53d6b647c6f9079b535af6c37acc7e6f28d08b789eaa9e23aa1154d5cda9c1"), looks := false }, kinds := [], alts := [], laidByText := true, laidKinds := [.data, .pinned], laidTests := true, laidLooks := .later }
def MountOrdersMatchSpecCardSaid : Prop := Claim7.holds Tryd.pinned (.plain (OpenSpec.ofChange mountOrdersMatchSpecSpec)) mountOrdersMatchSpecCard

/-- THE TIED CARD OF 'etchhouselaw10.MountShortMatchesSpec'. -/
def mountShortMatchesSpecCard : Claim7 := { stood := { row := mountShortMatchesSpecRow, standIns := [], harness := (true, "7a53d6b647c6f9079b535af6c37acc7e6f28d08b789eaa9e23aa1154d5cda9c1"), looks := false }, kinds := [], alts := [], laidByText := true, laidKinds := [.data, .pinned], laidTests := true, laidLooks := .later }
def MountShortMatchesSpecCardSaid : Prop := Claim7.holds Tryd.pinned (.plain (OpenSpec.ofChange mountShortMatchesSpecSpec)) mountShortMatchesSpecCard

/-- THE TIED CARD OF 'etchhouselaw10.MountNothingShort'. -/
def mountNothingShortCard : Claim7 := { stood := { row := mountNothingShortRow, standIns := [], harness := (true, "7a53d6b647c6f9079b535af6c37acc7e6f28d08b789eaa9e23aa1154d5cda9c1"), looks := false }, kinds := [], alts := [], laidByText := true, laidKinds := [.data, .pinned], laidTests := true, laidLooks := .later }
def MountNothingShortCardSaid : Prop := Claim7.holds Tryd.pinned (.plain (OpenSpec.ofChange mountNothingShortSpec)) mountNothingShortCard

/-- THE SECOND FORM's CARD OF 'etchhouselaw10.MountMovedTogether'. -/
def mountMovedTogetherUptoCard : Claim7 := { stood := { row := mountMovedTogetherUptoRow, standIns := [], harness := (true, "7a53d6b647c6f9079b535af6c37acc7e6f28d08b789eaa9e23aa1154d5cda9c1"), looks := false }, kinds := [], alts := [], laidByText := true, laidKinds := [.data, .pinned], laidTests := true, laidLooks := .later }
def MountMovedTogetherUptoCardSaid : Prop := Claim7.holds Tryd.pinned (.plain (OpenSpec.upto mountMovedTogetherSpec)) mountMovedTogetherUptoCard

/-- THE SECOND FORM's CARD OF 'etchhouselaw10.MountTakenMatchesSpec'. -/
def mountTakenMatchesSpecUptoCard : Claim7 := { stood := { row := mountTakenMatchesSpecUptoRow, standIns := [], harness := (true, "7a53d6b647c6f9079b535af6c37acc7e6f28d08b789eaa9e23aa1154d5cda9c1"), looks := false }, kinds := [], alts := [], laidByText := true, laidKinds := [.data, .pinned], laidTests := true, laidLooks := .later }
def MountTakenMatchesSpecUptoCardSaid : Prop := Claim7.holds Tryd.pinned (.plain (OpenSpec.upto mountTakenMatchesSpecSpec)) mountTakenMatchesSpecUptoCard

/-- THE SECOND FORM's CARD OF 'etchhouselaw10.MountPicksTakeWhatThereIs'. -/
def mountPicksTakeWhatThereIsUptoCard : Claim7 := { stood := { row := mountPicksTakeWhatThereIsUptoRow, standIns := [], harness := (true, "7a53d6b647c6f9079b535af6c37acc7e6f28d08b789eaa9e23aa1154d5cda9c1"), looks := false }, kinds := [], alts := [], laidByText := true, laidKinds := [.data, .pinned], laidTests := true, laidLooks := .later }
def MountPicksTakeWhatThereIsUptoCardSaid : Prop := Claim7.holds Tryd.pinned (.plain (OpenSpec.upto mountPicksTakeWhatThereIsSpec)) mountPicksTakeWhatThereIsUptoCard

/-- THE SECOND FORM's CARD OF 'etchhouselaw10.MountPicksMatchSpec'. -/
def mountPicksMatchSpecUptoCard : Claim7 := { stood := { row := mountPicksMatchSpecUptoRow, standIns := [], harness := (true, "7a53d6b647c6f9079b535af6c37acc7e6f28d08b789eaa9e23aa1154d5cda9c1"), looks := false }, kinds := [], alts := [], laidByText := true, laidKinds := [.data, .pinned], laidTests := true, laidLooks := .later }
def MountPicksMatchSpecUptoCardSaid : Prop := Claim7.holds Tryd.pinned (.plain (OpenSpec.upto mountPicksMatchSpecSpec)) mountPicksMatchSpecUptoCard

/-- THE SECOND FORM's CARD OF 'etchhouselaw10.MountOrderIsOne'. -/
def mountOrderIsOneUptoCard : Claim7 := { stood := { row := mountOrderIsOneUptoRow, standIns := [], harness := (true, "7a53d6b647c6f9079b535af6c37acc7e6f28d08b789eaa9e23aa1154d5cda9c1"), looks := false }, kinds := [], alts := [], laidByText := true, laidKinds := [.data, .pinned], laidTests := true, laidLooks := .later }
def MountOrderIsOneUptoCardSaid : Prop := Claim7.holds Tryd.pinned (.plain (OpenSpec.upto mountOrderIsOneSpec)) mountOrderIsOneUptoCard

/-- THE SECOND FORM's CARD OF 'etchhouselaw10.MountChecksMatchSpec'. -/
def mountChecksMatchSpecUptoCard : Claim7 := { stood := { row := mountChecksMatchSpecUptoRow, standIns := [], harness := (true, "7a53d6b647c6f9079b535af6c37acc7e6f28d08b789eaa9e23aa1154d5cda9c1"), looks := false }, kinds := [], alts := [], laidByText := true, laidKinds := [.data, .pinned], laidTests := true, laidLooks := .later }
def MountChecksMatchSpecUptoCardSaid : Prop := Claim7.holds Tryd.pinned (.plain (OpenSpec.upto mountChecksMatchSpecSpec)) mountChecksMatchSpecUptoCard

/-- THE SECOND FORM's CARD OF 'etchhouselaw10.MountOrdersMatchSpec'. -/
def mountOrdersMatchSpecUptoCard : Claim7 := { stood := { row := mountOrdersMatchSpecUptoRow, standIns := [], harness := (true, "7a53d6b647c6f9079b535af6c37acc7e6f28d08b789eaa9e23aa1154d5cda9c1"), looks := false }, kinds := [], alts := [], laidByText := true, laidKinds := [.data, .pinned], laidTests := true, laidLooks := .later }
def MountOrdersMatchSpecUptoCardSaid : Prop := Claim7.holds Tryd.pinned (.plain (OpenSpec.upto mountOrdersMatchSpecSpec)) mountOrdersMatchSpecUptoCard

/-- THE SECOND FORM's CARD OF 'etchhouselaw10.MountShortMatchesSpec'. -/
def mountShortMatchesSpecUptoCard : Claim7 := { stood := { row := mountShortMatchesSpecUptoRow, standIns := [], harness := (true, "7a53d6b647c6f9079b535af6c37acc7e6f28d08b789eaa9e23aa1154d5cda9c1"), looks := false }, kinds := [], alts := [], laidByText := true, laidKinds := [.data, .pinned], laidTests := true, laidLooks := .later }
def MountShortMatchesSpecUptoCardSaid : Prop := Claim7.holds Tryd.pinned (.plain (OpenSpec.upto mountShortMatchesSpecSpec)) mountShortMatchesSpecUptoCard

/-- THE SECOND FORM's CARD OF 'etchhouselaw10.MountNothingShort'. -/
def mountNothingShortUptoCard : Claim7 := { stood := { row := mountNothingShortUptoRow, standIns := [], harness := (true, "7a53d6b647c6f9079b535af6c37acc7e6f28d08b789eaa9e23aa1154d5cda9c1"), looks := false }, kinds := [], alts := [], laidByText := true, laidKinds := [.data, .pinned], laidTests := true, laidLooks := .later }
def MountNothingShortUptoCardSaid : Prop := Claim7.holds Tryd.pinned (.plain (OpenSpec.upto mountNothingShortSpec)) mountNothingShortUptoCard
end Rows
end Go.Proofs.YtjemgnhklipcjaaDoor
