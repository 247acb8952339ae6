/-
  DERIVED. GIVEN WITH THE SEED: THE CARDS: each row of YtonpiacnljcohaaDoorRows.lean that lists a variable, with what it lists TIED to the program's text (the seventh form; the later family's looks); each row that meets fmt, with fmt's text TOLD by the authors' own Lean function (tested against real Go, not proved from fmt's source: count such statements apart). THE CARD IS WHAT COUNTS. Prove the row's statement (the work); the ties are given (YtonpiacnljcohaaDoorTie.lean); close each card by the builder's one call (the guide's Derived/Test/ToyasCard.lean, 'card_holds'). Laid BY PROGRAM, IN A SANDBOX (cutbox-door.mjs). By AI agents, Wed Nov 11 2026. No macro, syntax, notation, axiom, sorry.
-/
import Derived.Test.YtonpiacnljcohaaDoorRows
import GoSem.ClaimSeven
namespace Go.Proofs.YtonpiacnljcohaaDoor
namespace Rows

/-- THE TIED CARD OF 'stemmalaw04.FrameSeals'. -/
def frameSealsCard : Claim7 := { stood := { row := frameSealsRow, standIns := [], harness := (true, "956ae25445c47c2141208d426e7ee423e558305060ba87ddc7bd9beeb19d8d24"), looks := true }, kinds := [], alts := [], laidByText := true, laidKinds := [.data], laidTests := true, laidLooks := .later }
def FrameSealsCardSaid : Prop := Claim7.holds Tryd.pinned (.plain (OpenSpec.ofChange frameSealsSpec)) frameSealsCard

/-- THE TIED CARD OF 'stemmalaw04.FrameOpens'. -/
def frameOpensCard : Claim7 := { stood := { row := frameOpensRow, standIns := [], harness := (true, "956ae25445c47c2141208d426e7ee423e558305060ba87ddc7bd9beeb19d8d24"), looks := true }, kinds := [], alts := [], laidByText := true, laidKinds := [.data], laidTests := true, laidLooks := .later }
def FrameOpensCardSaid : Prop := Claim7.holds Tryd.pinned (.plain (OpenSpec.ofChange frameOpensSpec)) frameOpensCard

/-- THE TIED CARD OF 'stemmalaw04.FrameScans'. -/
def frameScansCard : Claim7 := { stood := { row := frameScansRow, standIns := [], harness := (true, "956ae25445c47c2141208d426e7ee423e558305060ba87ddc7bd9beeb19d8d24"), looks := true }, kinds := [], alts := [], laidByText := true, laidKinds := [.data], laidTests := true, laidLooks := .later }
def FrameScansCardSaid : Prop := Claim7.holds Tryd.pinned (.plain (OpenSpec.ofChange frameScansSpec)) frameScansCard

/-- THE TIED CARD OF 'stemmalaw04.FrameBack'. -/
def frameBackCard : Claim7 := { stood := { row := frameBackRow, standIns := [], harness := (true, "956ae25445c47c2141208d426e7ee423e558305060ba87ddc7bd9beeb19d8d24"), looks := true }, kinds := [], alts := [], laidByText := true, laidKinds := [.data], laidTests := true, laidLooks := .later }
def FrameBackCardSaid : Prop := Claim7.holds Tryd.pinned (.plain (OpenSpec.ofChange frameBackSpec)) frameBackCard

/-- THE TIED CARD OF 'stemmalaw04.FrameTurned'. -/
def frameTurnedCard : Claim7 := { stood := { row := frameTurnedRow, standIns := [], harness := (true, "956ae25445c47c2141208d426e7ee423e558305060ba87ddc7bd9beeb19d8d24"), looks := true }, kinds := [], alts := [], laidByText := true, laidKinds := [.data], laidTests := true, laidLooks := .later }
def FrameTurnedCardSaid : Prop := Claim7.holds Tryd.pinned (.plain (OpenSpec.ofChange frameTurnedSpec)) frameTurnedCard

/-- THE TIED CARD OF 'stemmalaw04.FrameNoughts'. -/
def frameNoughtsCard : Claim7 := { stood := { row := frameNoughtsRow, standIns := [], harness := (true, "956ae25445c47c2141208d426e7ee423e558305060ba87ddc7bd9beeb19d8d24"), looks := true }, kinds := [], alts := [], laidByText := true, laidKinds := [.data], laidTests := true, laidLooks := .later }
def FrameNoughtsCardSaid : Prop := Claim7.holds Tryd.pinned (.plain (OpenSpec.ofChange frameNoughtsSpec)) frameNoughtsCard

/-- THE TIED CARD OF 'stemmalaw19.ManifestPuts'. -/
def manifestPutsCard : Claim7 := { stood := { row := manifestPutsRow, standIns := [], harness := (true, "956ae25445c47c2141208d426e7ee423e558305060ba87ddc7bd9beeb19d8d24"), looks := true }, kinds := [], alts := [], laidByText := true, laidKinds := [.data], laidTests := true, laidLooks := .later }
def ManifestPutsCardSaid : Prop := Claim7.holds Tryd.pinned (.plain (OpenSpec.ofChange manifestPutsSpec)) manifestPutsCard

/-- THE TIED CARD OF 'stemmalaw19.ManifestGets'. -/
def manifestGetsCard : Claim7 := { stood := { row := manifestGetsRow, standIns := [], harness := (true, "956ae25445c47c2141208d426e7ee423e558305060ba87ddc7bd9beeb19d8d24"), looks := true }, kinds := [], alts := [], laidByText := true, laidKinds := [.data], laidTests := true, laidLooks := .later }
def ManifestGetsCardSaid : Prop := Claim7.holds Tryd.pinned (.plain (OpenSpec.ofChange manifestGetsSpec)) manifestGetsCard

/-- THE TIED CARD OF 'stemmalaw19.ManifestSames'. -/
def manifestSamesCard : Claim7 := { stood := { row := manifestSamesRow, standIns := [], harness := (true, "956ae25445c47c2141208d426e7ee423e558305060ba87ddc7bd9beeb19d8d24"), looks := true }, kinds := [], alts := [], laidByText := true, laidKinds := [.data], laidTests := true, laidLooks := .later }
def ManifestSamesCardSaid : Prop := Claim7.holds Tryd.pinned (.plain (OpenSpec.ofChange manifestSamesSpec)) manifestSamesCard

/-- THE TIED CARD OF 'stemmalaw19.ManifestBack'. -/
def manifestBackCard : Claim7 := { stood := { row := manifestBackRow, standIns := [], harness := (true, "956ae25445c47c2141208d426e7ee423e558305060ba87ddc7bd9beeb19d8d24"), looks := true }, kinds := [], alts := [], laidByText := true, laidKinds := [.data], laidTests := true, laidLooks := .later }
def ManifestBackCardSaid : Prop := Claim7.holds Tryd.pinned (.plain (OpenSpec.ofChange manifestBackSpec)) manifestBackCard

/-- THE SECOND FORM's CARD OF 'stemmalaw04.FrameSeals'. -/
def frameSealsUptoCard : Claim7 := { stood := { row := frameSealsUptoRow, standIns := [], harness := (true, "956ae25445c47c2141208d426e7ee423e558305060ba87ddc7bd9beeb19d8d24"), looks := true }, kinds := [], alts := [], laidByText := true, laidKinds := [.data], laidTests := true, laidLooks := .later }
def FrameSealsUptoCardSaid : Prop := Claim7.holds Tryd.pinned (.plain (OpenSpec.upto frameSealsSpec)) frameSealsUptoCard

/-- THE SECOND FORM's CARD OF 'stemmalaw04.FrameOpens'. -/
def frameOpensUptoCard : Claim7 := { stood := { row := frameOpensUptoRow, standIns := [], harness := (true, "956ae25445c47c2141208d426e7ee423e558305060ba87ddc7bd9beeb19d8d24"), looks := true }, kinds := [], alts := [], laidByText := true, laidKinds := [.data], laidTests := true, laidLooks := .later }
def FrameOpensUptoCardSaid : Prop := Claim7.holds Tryd.pinned (.plain (OpenSpec.upto frameOpensSpec)) frameOpensUptoCard

/-- THE SECOND FORM's CARD OF 'stemmalaw04.FrameScans'. -/
def frameScansUptoCard : Claim7 := { stood := { row := frameScansUptoRow, standIns := [], harness := (true, "956ae25445c47c2141208d426e7ee423e558305060ba87ddc7bd9beeb19d8d24"), looks := true }, kinds := [], alts := [], laidByText := true, laidKinds := [.data], laidTests := true, laidLooks := .later }
def FrameScansUptoCardSaid : Prop := Claim7.holds Tryd.pinned (.plain (OpenSpec.upto frameScansSpec)) frameScansUptoCard

/-- THE SECOND FORM's CARD OF 'stemmalaw04.FrameBack'. -/
def frameBackUptoCard : Claim7 := { stood := { row := frameBackUptoRow, standIns := [], harness := (true, "956ae25445c47c2141208d426e7ee423e558305060ba87ddc7bd9beeb19d8d24"), looks := true }, kinds := [], alts := [], laidByText := true, laidKinds := [.data], laidTests := true, laidLooks := .later }
def FrameBackUptoCardSaid : Prop := Claim7.holds Tryd.pinned (.plain (OpenSpec.upto frameBackSpec)) frameBackUptoCard

/-- THE SECOND FORM's CARD OF 'stemmalaw04.FrameTurned'. -/
def frameTurnedUptoCard : Claim7 := { stood := { row := frameTurnedUptoRow, standIns := [], harness := (true, "956ae25445c47c2141208d426e7ee423e558305060ba87ddc7bd9beeb19d8d24"), looks := true }, kinds := [], alts := [], laidByText := true, laidKinds := [.data], laidTests := true, laidLooks := .later }
def FrameTurnedUptoCardSaid : Prop := Claim7.holds Tryd.pinned (.plain (OpenSpec.upto frameTurnedSpec)) frameTurnedUptoCard

/-- THE SECOND FORM's CARD OF 'stemmalaw04.FrameNoughts'. -/
def frameNoughtsUptoCard : Claim7 := { stood := { row := frameNoughtsUptoRow, standIns := [], harness := (true, "956ae25445c47c2141208d426e7ee423e558305060ba87ddc7bd9beeb19d8d24"), looks := true }, kinds := [], alts := [], laidByText := true, laidKinds := [.data], laidTests := true, laidLooks := .later }
def FrameNoughtsUptoCardSaid : Prop := Claim7.holds Tryd.pinned (.plain (OpenSpec.upto frameNoughtsSpec)) frameNoughtsUptoCard

/-- THE SECOND FORM's CARD OF 'stemmalaw19.ManifestPuts'. -/
def manifestPutsUptoCard : Claim7 := { stood := { row := manifestPutsUptoRow, standIns := [], harness := (true, "956ae25445c47c2141208d426e7ee423e558305060ba87ddc7bd9beeb19d8d24"), looks := true }, kinds := [], alts := [], laidByText := true, laidKinds := [.data], laidTests := true, laidLooks := .later }
def ManifestPutsUptoCardSaid : Prop := Claim7.holds Tryd.pinned (.plain (OpenSpec.upto manifestPutsSpec)) manifestPutsUptoCard

/-- THE SECOND FORM's CARD OF 'stemmalaw19.ManifestGets'. -/
def manifestGetsUptoCard : Claim7 := { stood := { row := manifestGetsUptoRow, standIns := [], harness := (true, "956ae25445c47c2141208d426e7ee423e558305060ba87ddc7bd9beeb19d8d24"), looks := true }, kinds := [], alts := [], laidByText := true, laidKinds := [.data], laidTests := true, laidLooks := .later }
def ManifestGetsUptoCardSaid : Prop := Claim7.holds Tryd.pinned (.plain (OpenSpec.upto manifestGetsSpec)) manifestGetsUptoCard

/-- THE SECOND FORM's CARD OF 'stemmalaw19.ManifestSames'. -/
def manifestSamesUptoCard : Claim7 := { stood := { row := manifestSamesUptoRow, standIns := [], harness := (true, "956ae25445c47c2141208d426e7ee423e558305060ba87ddc7bd9beeb19d8d24"), looks := true }, kinds := [], alts := [], laidByText := true, laidKinds := [.data], laidTests := true, laidLooks := .later }
def ManifestSamesUptoCardSaid : Prop := Claim7.holds Tryd.pinned (.plain (OpenSpec.upto manifestSamesSpec)) manifestSamesUptoCard

/-- THE SECOND FORM's CARD OF 'stemmalaw19.ManifestBack'. -/
def manifestBackUptoCard : Claim7 := { stood := { row := manifestBackUptoRow, standIns := [], harness := (true, "956ae25445c47c2141208d426e7ee423e558305060ba87ddc7bd9beeb19d8d24"), looks := true }, kinds := [], alts := [], laidByText := true, laidKinds := [.data], laidTests := true, laidLooks := .later }
def ManifestBackUptoCardSaid : Prop := Claim7.holds Tryd.pinned (.plain (OpenSpec.upto manifestBackSpec)) manifestBackUptoCard
end Rows
end Go.Proofs.YtonpiacnljcohaaDoor
