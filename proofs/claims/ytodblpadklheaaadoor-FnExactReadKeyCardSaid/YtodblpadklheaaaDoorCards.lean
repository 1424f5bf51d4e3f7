/-
  DERIVED. GIVEN WITH THE SEED: THE CARDS: each row of YtodblpadklheaaaDoorRows.lean that lists a variable, with what it lists TIED to the program's text (the seventh form; the later family's looks); each row that meets fmt, with fmt's text TOLD by the authors' own Lean function (tested against real Go, not proved from fmt's source: count such statements apart). THE CARD IS WHAT COUNTS. Prove the row's statement (the work); the ties are given (YtodblpadklheaaaDoorTie.lean); close each card by the builder's one call (the guide's Derived/Test/ToyasCard.lean, 'card_holds'). Laid BY PROGRAM, IN A SANDBOX (cutbox-door.mjs). By AI agents, Wed Nov 11 2026. No macro, syntax, notation, axiom, sorry.
-/
import Derived.Test.YtodblpadklheaaaDoorRows
import GoSem.ClaimSeven
namespace Go.Proofs.YtodblpadklheaaaDoor
namespace Rows

/-- THE TIED CARD OF 'laws.FnExactKeyBytes'. -/
def fnExactKeyBytesCard : Claim7 := { stood := { row := fnExactKeyBytesRow, standIns := [], harness := (true, "b8a0f7fb70f63b9a20744c4ddaebae1c057689440af324ddd5fedf2c7c8d336e"), looks := false }, kinds := [], alts := [], laidByText := true, laidKinds := [.data, .pinned], laidTests := true, laidLooks := .later }
def FnExactKeyBytesCardSaid : Prop := Claim7.holds Tryd.pinned (.plain (OpenSpec.ofChange fnExactKeyBytesSpec)) fnExactKeyBytesCard

/-- THE TIED CARD OF 'laws.FnExactSyncFile'. -/
def fnExactSyncFileCard : Claim7 := { stood := { row := fnExactSyncFileRow, standIns := [], harness := (true, "b8a0f7fb70f63b9a20744c4ddaebae1c057689440af324ddd5fedf2c7c8d336e"), looks := false }, kinds := [], alts := [], laidByText := true, laidKinds := [.data, .pinned], laidTests := true, laidLooks := .later }
def FnExactSyncFileCardSaid : Prop := Claim7.holds Tryd.pinned (.plain (OpenSpec.ofChange fnExactSyncFileSpec)) fnExactSyncFileCard

/-- THE TIED CARD OF 'laws.FnExactReadKey'. -/
def fnExactReadKeyCard : Claim7 := { stood := { row := fnExactReadKeyRow, standIns := [], harness := (true, "b8a0f7fb70f63b9a20744c4ddaebae1c057689440af324ddd5fedf2c7c8d336e"), looks := false }, kinds := [], alts := [], laidByText := true, laidKinds := [.data, .pinned], laidTests := true, laidLooks := .later }
def FnExactReadKeyCardSaid : Prop := Claim7.holds Tryd.pinned (.plain (OpenSpec.ofChange fnExactReadKeySpec)) fnExactReadKeyCard

/-- THE TIED CARD OF 'laws.FnExactNewStore'. -/
def fnExactNewStoreCard : Claim7 := { stood := { row := fnExactNewStoreRow, standIns := [], harness := (true, "b8a0f7fb70f63b9a20744c4ddaebae1c057689440af324ddd5fedf2c7c8d336e"), looks := false }, kinds := [], alts := [], laidByText := true, laidKinds := [.data, .data, .data], laidTests := true, laidLooks := .later }
def FnExactNewStoreCardSaid : Prop := Claim7.holds Tryd.pinned (.plain (OpenSpec.ofChange fnExactNewStoreSpec)) fnExactNewStoreCard

/-- THE SECOND FORM's CARD OF 'laws.FnExactKeyBytes'. -/
def fnExactKeyBytesUptoCard : Claim7 := { stood := { row := fnExactKeyBytesUptoRow, standIns := [], harness := (true, "b8a0f7fb70f63b9a20744c4ddaebae1c057689440af324ddd5fedf2c7c8d336e"), looks := false }, kinds := [], alts := [], laidByText := true, laidKinds := [.data, .pinned], laidTests := true, laidLooks := .later }
def FnExactKeyBytesUptoCardSaid : Prop := Claim7.holds Tryd.pinned (.plain (OpenSpec.upto fnExactKeyBytesSpec)) fnExactKeyBytesUptoCard

/-- THE SECOND FORM's CARD OF 'laws.FnExactSyncFile'. -/
def fnExactSyncFileUptoCard : Claim7 := { stood := { row := fnExactSyncFileUptoRow, standIns := [], harness := (true, "b8a0f7fb70f63b9a20744c4ddaebae1c057689440af324ddd5fedf2c7c8d336e"), looks := false }, kinds := [], alts := [], laidByText := true, laidKinds := [.data, .pinned], laidTests := true, laidLooks := .later }
def FnExactSyncFileUptoCardSaid : Prop := Claim7.holds Tryd.pinned (.plain (OpenSpec.upto fnExactSyncFileSpec)) fnExactSyncFileUptoCard

/-- THE SECOND FORM's CARD OF 'laws.FnExactReadKey'. -/
def fnExactReadKeyUptoCard : Claim7 := { stood := { row := fnExactReadKeyUptoRow, standIns := [], harness := (true, "b8a0f7fb70f63b9a20744c4ddaebae1c057689440af324ddd5fedf2c7c8d336e"), looks := false }, kinds := [], alts := [], laidByText := true, laidKinds := [.data, .pinned], laidTests := true, laidLooks := .later }
def FnExactReadKeyUptoCardSaid : Prop := Claim7.holds Tryd.pinned (.plain (OpenSpec.upto fnExactReadKeySpec)) fnExactReadKeyUptoCard

/-- THE SECOND FORM's CARD OF 'laws.FnExactNewStore'. -/
def fnExactNewStoreUptoCard : Claim7 := { stood := { row := fnExactNewStoreUptoRow, standIns := [], harness := (true, "b8a0f7fb70f63b9a20744c4ddaebae1c057689440af324ddd5fedf2c7c8d336e"), looks := false }, kinds := [], alts := [], laidByText := true, laidKinds := [.data, .data, .data], laidTests := true, laidLooks := .later }
def FnExactNewStoreUptoCardSaid : Prop := Claim7.holds Tryd.pinned (.plain (OpenSpec.upto fnExactNewStoreSpec)) fnExactNewStoreUptoCard
end Rows
end Go.Proofs.YtodblpadklheaaaDoor
