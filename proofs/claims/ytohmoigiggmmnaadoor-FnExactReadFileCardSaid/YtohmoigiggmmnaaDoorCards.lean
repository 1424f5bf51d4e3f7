/-
  DERIVED. GIVEN WITH THE SEED: THE CARDS: each row of YtohmoigiggmmnaaDoorRows.lean that lists a variable, with what it lists TIED to the program's text (the seventh form; the later family's looks); each row that meets fmt, with fmt's text TOLD by the authors' own Lean function (tested against real Go, not proved from fmt's source: count such statements apart). THE CARD IS WHAT COUNTS. Prove the row's statement (the work); the ties are given (YtohmoigiggmmnaaDoorTie.lean); close each card by the builder's one call (the guide's Derived/Test/ToyasCard.lean, 'card_holds'). Laid BY PROGRAM, IN A SANDBOX (cutbox-door.mjs). By AI agents, Wed Nov 11 2026. No macro, syntax, notation, axiom, sorry.
-/
import Derived.Test.YtohmoigiggmmnaaDoorRows
import GoSem.ClaimSeven
namespace Go.Proofs.YtohmoigiggmmnaaDoor
namespace Rows

/-- THE TIED CARD OF 'laws.FnExactGoodKey'. -/
def fnExactGoodKeyCard : Claim7 := { stood := { row := fnExactGoodKeyRow, standIns := [], harness := (true, "51e1c8b02c4b9c628f0335ad38502936e1a3792a419d7c59986f5be731bdf752"), looks := false }, kinds := [], alts := [], laidByText := true, laidKinds := [.data, .pinned], laidTests := true, laidLooks := .later }
def FnExactGoodKeyCardSaid : Prop := Claim7.holds Tryd.pinned (.plain (OpenSpec.ofChange fnExactGoodKeySpec)) fnExactGoodKeyCard

/-- THE TIED CARD OF 'laws.FnExactGoodFiles'. -/
def fnExactGoodFilesCard : Claim7 := { stood := { row := fnExactGoodFilesRow, standIns := [], harness := (true, "51e1c8b02c4b9c628f0335ad38502936e1a3792a419d7c59986f5be731bdf752"), looks := false }, kinds := [], alts := [], laidByText := true, laidKinds := [.data, .pinned], laidTests := true, laidLooks := .later }
def FnExactGoodFilesCardSaid : Prop := Claim7.holds Tryd.pinned (.plain (OpenSpec.ofChange fnExactGoodFilesSpec)) fnExactGoodFilesCard

/-- THE TIED CARD OF 'laws.FnExactUsedBytes'. -/
def fnExactUsedBytesCard : Claim7 := { stood := { row := fnExactUsedBytesRow, standIns := [], harness := (true, "51e1c8b02c4b9c628f0335ad38502936e1a3792a419d7c59986f5be731bdf752"), looks := false }, kinds := [], alts := [], laidByText := true, laidKinds := [.data, .pinned], laidTests := true, laidLooks := .later }
def FnExactUsedBytesCardSaid : Prop := Claim7.holds Tryd.pinned (.plain (OpenSpec.ofChange fnExactUsedBytesSpec)) fnExactUsedBytesCard

/-- THE TIED CARD OF 'laws.FnExactCompareKeys'. -/
def fnExactCompareKeysCard : Claim7 := { stood := { row := fnExactCompareKeysRow, standIns := [], harness := (true, "51e1c8b02c4b9c628f0335ad38502936e1a3792a419d7c59986f5be731bdf752"), looks := false }, kinds := [], alts := [], laidByText := true, laidKinds := [.data, .pinned], laidTests := true, laidLooks := .later }
def FnExactCompareKeysCardSaid : Prop := Claim7.holds Tryd.pinned (.plain (OpenSpec.ofChange fnExactCompareKeysSpec)) fnExactCompareKeysCard

/-- THE TIED CARD OF 'laws.FnExactKeyBytes'. -/
def fnExactKeyBytesCard : Claim7 := { stood := { row := fnExactKeyBytesRow, standIns := [], harness := (true, "51e1c8b02c4b9c628f0335ad38502936e1a3792a419d7c59986f5be731bdf752"), looks := false }, kinds := [], alts := [], laidByText := true, laidKinds := [.data, .pinned], laidTests := true, laidLooks := .later }
def FnExactKeyBytesCardSaid : Prop := Claim7.holds Tryd.pinned (.plain (OpenSpec.ofChange fnExactKeyBytesSpec)) fnExactKeyBytesCard

/-- THE TIED CARD OF 'laws.FnExactReadFile'. -/
def fnExactReadFileCard : Claim7 := { stood := { row := fnExactReadFileRow, standIns := [], harness := (true, "51e1c8b02c4b9c628f0335ad38502936e1a3792a419d7c59986f5be731bdf752"), looks := false }, kinds := [], alts := [], laidByText := true, laidKinds := [.data, .pinned], laidTests := true, laidLooks := .later }
def FnExactReadFileCardSaid : Prop := Claim7.holds Tryd.pinned (.plain (OpenSpec.ofChange fnExactReadFileSpec)) fnExactReadFileCard

/-- THE TIED CARD OF 'laws.FnExactSyncFile'. -/
def fnExactSyncFileCard : Claim7 := { stood := { row := fnExactSyncFileRow, standIns := [], harness := (true, "51e1c8b02c4b9c628f0335ad38502936e1a3792a419d7c59986f5be731bdf752"), looks := false }, kinds := [], alts := [], laidByText := true, laidKinds := [.data, .pinned], laidTests := true, laidLooks := .later }
def FnExactSyncFileCardSaid : Prop := Claim7.holds Tryd.pinned (.plain (OpenSpec.ofChange fnExactSyncFileSpec)) fnExactSyncFileCard

/-- THE TIED CARD OF 'laws.FnExactReadKey'. -/
def fnExactReadKeyCard : Claim7 := { stood := { row := fnExactReadKeyRow, standIns := [], harness := (true, "51e1c8b02c4b9c628f0335ad38502936e1a3792a419d7c59986f5be731bdf752"), looks := false }, kinds := [], alts := [], laidByText := true, laidKinds := [.data, .pinned], laidTests := true, laidLooks := .later }
def FnExactReadKeyCardSaid : Prop := Claim7.holds Tryd.pinned (.plain (OpenSpec.ofChange fnExactReadKeySpec)) fnExactReadKeyCard

/-- THE TIED CARD OF 'laws.FnExactNewStore'. -/
def fnExactNewStoreCard : Claim7 := { stood := { row := fnExactNewStoreRow, standIns := [], harness := (true, "51e1c8b02c4b9c628f0335ad38502936e1a3792a419d7c59986f5be731bdf752"), looks := false }, kinds := [], alts := [], laidByText := true, laidKinds := [.data, .data, .data], laidTests := true, laidLooks := .later }
def FnExactNewStoreCardSaid : Prop := Claim7.holds Tryd.pinned (.plain (OpenSpec.ofChange fnExactNewStoreSpec)) fnExactNewStoreCard

/-- THE SECOND FORM's CARD OF 'laws.FnExactGoodKey'. -/
def fnExactGoodKeyUptoCard : Claim7 := { stood := { row := fnExactGoodKeyUptoRow, standIns := [], harness := (true, "51e1c8b02c4b9c628f0335ad38502936e1a3792a419d7c59986f5be731bdf752"), looks := false }, kinds := [], alts := [], laidByText := true, laidKinds := [.data, .pinned], laidTests := true, laidLooks := .later }
def FnExactGoodKeyUptoCardSaid : Prop := Claim7.holds Tryd.pinned (.plain (OpenSpec.upto fnExactGoodKeySpec)) fnExactGoodKeyUptoCard

/-- THE SECOND FORM's CARD OF 'laws.FnExactGoodFiles'. -/
def fnExactGoodFilesUptoCard : Claim7 := { stood := { row := fnExactGoodFilesUptoRow, standIns := [], harness := (true, "51e1c8b02c4b9c628f0335ad38502936e1a3792a419d7c59986f5be731bdf752"), looks := false }, kinds := [], alts := [], laidByText := true, laidKinds := [.data, .pinned], laidTests := true, laidLooks := .later }
def FnExactGoodFilesUptoCardSaid : Prop := Claim7.holds Tryd.pinned (.plain (OpenSpec.upto fnExactGoodFilesSpec)) fnExactGoodFilesUptoCard

/-- THE SECOND FORM's CARD OF 'laws.FnExactUsedBytes'. -/
def fnExactUsedBytesUptoCard : Claim7 := { stood := { row := fnExactUsedBytesUptoRow, standIns := [], harness := (true, "51e1c8b02c4b9c628f0335ad38502936e1a3792a419d7c59986f5be731bdf752"), looks := false }, kinds := [], alts := [], laidByText := true, laidKinds := [.data, .pinned], laidTests := true, laidLooks := .later }
def FnExactUsedBytesUptoCardSaid : Prop := Claim7.holds Tryd.pinned (.plain (OpenSpec.upto fnExactUsedBytesSpec)) fnExactUsedBytesUptoCard

/-- THE SECOND FORM's CARD OF 'laws.FnExactCompareKeys'. -/
def fnExactCompareKeysUptoCard : Claim7 := { stood := { row := fnExactCompareKeysUptoRow, standIns := [], harness := (true, "51e1c8b02c4b9c628f0335ad38502936e1a3792a419d7c59986f5be731bdf752"), looks := false }, kinds := [], alts := [], laidByText := true, laidKinds := [.data, .pinned], laidTests := true, laidLooks := .later }
def FnExactCompareKeysUptoCardSaid : Prop := Claim7.holds Tryd.pinned (.plain (OpenSpec.upto fnExactCompareKeysSpec)) fnExactCompareKeysUptoCard

/-- THE SECOND FORM's CARD OF 'laws.FnExactKeyBytes'. -/
def fnExactKeyBytesUptoCard : Claim7 := { stood := { row := fnExactKeyBytesUptoRow, standIns := [], harness := (true, "51e1c8b02c4b9c628f0335ad38502936e1a3792a419d7c59986f5be731bdf752"), looks := false }, kinds := [], alts := [], laidByText := true, laidKinds := [.data, .pinned], laidTests := true, laidLooks := .later }
def FnExactKeyBytesUptoCardSaid : Prop := Claim7.holds Tryd.pinned (.plain (OpenSpec.upto fnExactKeyBytesSpec)) fnExactKeyBytesUptoCard

/-- THE SECOND FORM's CARD OF 'laws.FnExactReadFile'. -/
def fnExactReadFileUptoCard : Claim7 := { stood := { row := fnExactReadFileUptoRow, standIns := [], harness := (true, "51e1c8b02c4b9c628f0335ad38502936e1a3792a419d7c59986f5be731bdf752"), looks := false }, kinds := [], alts := [], laidByText := true, laidKinds := [.data, .pinned], laidTests := true, laidLooks := .later }
def FnExactReadFileUptoCardSaid : Prop := Claim7.holds Tryd.pinned (.plain (OpenSpec.upto fnExactReadFileSpec)) fnExactReadFileUptoCard

/-- THE SECOND FORM's CARD OF 'laws.FnExactSyncFile'. -/
def fnExactSyncFileUptoCard : Claim7 := { stood := { row := fnExactSyncFileUptoRow, standIns := [], harness := (true, "51e1c8b02c4b9c628f0335ad38502936e1a3792a419d7c59986f5be731bdf752"), looks := false }, kinds := [], alts := [], laidByText := true, laidKinds := [.data, .pinned], laidTests := true, laidLooks := .later }
def FnExactSyncFileUptoCardSaid : Prop := Claim7.holds Tryd.pinned (.plain (OpenSpec.upto fnExactSyncFileSpec)) fnExactSyncFileUptoCard

/-- THE SECOND FORM's CARD OF 'laws.FnExactReadKey'. -/
def fnExactReadKeyUptoCard : Claim7 := { stood := { row := fnExactReadKeyUptoRow, standIns := [], harness := (true, "51e1c8b02c4b9c628f0335ad38502936e1a3792a419d7c59986f5be731bdf752"), looks := false }, kinds := [], alts := [], laidByText := true, laidKinds := [.data, .pinned], laidTests := true, laidLooks := .later }
def FnExactReadKeyUptoCardSaid : Prop := Claim7.holds Tryd.pinned (.plain (OpenSpec.upto fnExactReadKeySpec)) fnExactReadKeyUptoCard

/-- THE SECOND FORM's CARD OF 'laws.FnExactNewStore'. -/
def fnExactNewStoreUptoCard : Claim7 := { stood := { row := fnExactNewStoreUptoRow, standIns := [], harness := (true, "51e1c8b02c4b9c628f0335ad38502936e1a3792a419d7c59986f5be731bdf752"), looks := false }, kinds := [], alts := [], laidByText := true, laidKinds := [.data, .data, .data], laidTests := true, laidLooks := .later }
def FnExactNewStoreUptoCardSaid : Prop := Claim7.holds Tryd.pinned (.plain (OpenSpec.upto fnExactNewStoreSpec)) fnExactNewStoreUptoCard
end Rows
end Go.Proofs.YtohmoigiggmmnaaDoor
