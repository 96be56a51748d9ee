/-
  DERIVED. GIVEN WITH THE SEED: THE CARDS: each row of YtfkjkdoloamakaaDoorRows.lean that lists a variable, with what it lists TIED to the program's text (the seventh form; the later family's looks); each row that meets fmt, with fmt's text TOLD by the authors' own Lean function (tested against real Go, not proved from fmt's source: count such statements apart). THE CARD IS WHAT COUNTS. Prove the row's statement (the work); the ties are given (YtfkjkdoloamakaaDoorTie.lean); close each card by the builder's one call (the guide's Derived/Test/ToyasCard.lean, 'card_holds'). Laid BY PROGRAM, IN A SANDBOX (cutbox-door.mjs). By AI agents, Wed Nov 11 2026. No macro, syntax, notation, axiom, sorry.
-/
import Derived.Test.YtfkjkdoloamakaaDoorRows
import GoSem.ClaimSeven
namespace Go.Proofs.YtfkjkdoloamakaaDoor
namespace Rows

/-- THE TIED CARD OF 'biremelaw09.RunRuns'. -/
def runRunsCard : Claim7 := { stood := { row := runRunsRow, standIns := [], harness := (true, "c9decca75fae2f008dce2298f8d1bbb6d5c63abe974a10777c03062597ca5265"), looks := true }, kinds := [], alts := [], laidByText := true, laidKinds := [.widerDeep], laidTests := true, laidLooks := .later }
def RunRunsCardSaid : Prop := Claim7.holds Tryd.pinned (.plain (OpenSpec.ofChange runRunsSpec)) runRunsCard

/-- THE TIED CARD OF 'biremelaw09.RunMoved'. -/
def runMovedCard : Claim7 := { stood := { row := runMovedRow, standIns := [], harness := (true, "c9decca75fae2f008dce2298f8d1bbb6d5c63abe974a10777c03062597ca5265"), looks := true }, kinds := [], alts := [], laidByText := true, laidKinds := [.widerDeep], laidTests := true, laidLooks := .later }
def RunMovedCardSaid : Prop := Claim7.holds Tryd.pinned (.plain (OpenSpec.ofChange runMovedSpec)) runMovedCard

/-- THE TIED CARD OF 'biremelaw09.RunParts'. -/
def runPartsCard : Claim7 := { stood := { row := runPartsRow, standIns := [], harness := (true, "c9decca75fae2f008dce2298f8d1bbb6d5c63abe974a10777c03062597ca5265"), looks := true }, kinds := [], alts := [], laidByText := true, laidKinds := [.widerDeep], laidTests := true, laidLooks := .later }
def RunPartsCardSaid : Prop := Claim7.holds Tryd.pinned (.plain (OpenSpec.ofChange runPartsSpec)) runPartsCard

/-- THE TIED CARD OF 'biremelaw09.RunCounts'. -/
def runCountsCard : Claim7 := { stood := { row := runCountsRow, standIns := [], harness := (true, "c9decca75fae2f008dce2298f8d1bbb6d5c63abe974a10777c03062597ca5265"), looks := true }, kinds := [], alts := [], laidByText := true, laidKinds := [.widerDeep], laidTests := true, laidLooks := .later }
def RunCountsCardSaid : Prop := Claim7.holds Tryd.pinned (.plain (OpenSpec.ofChange runCountsSpec)) runCountsCard

/-- THE TIED CARD OF 'biremelaw09.RunProfile'. -/
def runProfileCard : Claim7 := { stood := { row := runProfileRow, standIns := [], harness := (true, "c9decca75fae2f008dce2298f8d1bbb6d5c63abe974a10777c03062597ca5265"), looks := true }, kinds := [], alts := [], laidByText := true, laidKinds := [.widerDeep], laidTests := true, laidLooks := .later }
def RunProfileCardSaid : Prop := Claim7.holds Tryd.pinned (.plain (OpenSpec.ofChange runProfileSpec)) runProfileCard

/-- THE TIED CARD OF 'biremelaw09.RunNobody'. -/
def runNobodyCard : Claim7 := { stood := { row := runNobodyRow, standIns := [], harness := (true, "c9decca75fae2f008dce2298f8d1bbb6d5c63abe974a10777c03062597ca5265"), looks := true }, kinds := [], alts := [], laidByText := true, laidKinds := [.widerDeep], laidTests := true, laidLooks := .later }
def RunNobodyCardSaid : Prop := Claim7.holds Tryd.pinned (.plain (OpenSpec.ofChange runNobodySpec)) runNobodyCard

/-- THE TIED CARD OF 'biremelaw09.RunPoison'. -/
def runPoisonCard : Claim7 := { stood := { row := runPoisonRow, standIns := [], harness := (true, "c9decca75fae2f008dce2298f8d1bbb6d5c63abe974a10777c03062597ca5265"), looks := true }, kinds := [], alts := [], laidByText := true, laidKinds := [.widerDeep], laidTests := true, laidLooks := .later }
def RunPoisonCardSaid : Prop := Claim7.holds Tryd.pinned (.plain (OpenSpec.ofChange runPoisonSpec)) runPoisonCard

/-- THE SECOND FORM's CARD OF 'biremelaw09.RunRuns'. -/
def runRunsUptoCard : Claim7 := { stood := { row := runRunsUptoRow, standIns := [], harness := (true, "c9decca75fae2f008dce2298f8d1bbb6d5c63abe974a10777c03062597ca5265"), looks := true }, kinds := [], alts := [], laidByText := true, laidKinds := [.widerDeep], laidTests := true, laidLooks := .later }
def RunRunsUptoCardSaid : Prop := Claim7.holds Tryd.pinned (.plain (OpenSpec.upto runRunsSpec)) runRunsUptoCard

/-- THE SECOND FORM's CARD OF 'biremelaw09.RunMoved'. -/
def runMovedUptoCard : Claim7 := { stood := { row := runMovedUptoRow, standIns := [], harness := (true, "c9decca75fae2f008dce2298f8d1bbb6d5c63abe974a10777c03062597ca5265"), looks := true }, kinds := [], alts := [], laidByText := true, laidKinds := [.widerDeep], laidTests := true, laidLooks := .later }
def RunMovedUptoCardSaid : Prop := Claim7.holds Tryd.pinned (.plain (OpenSpec.upto runMovedSpec)) runMovedUptoCard

/-- THE SECOND FORM's CARD OF 'biremelaw09.RunParts'. -/
def runPartsUptoCard : Claim7 := { stood := { row := runPartsUptoRow, standIns := [], harness := (true, "c9decca75fae2f008dce2298f8d1bbb6d5c63abe974a10777c03062597ca5265"), looks := true }, kinds := [], alts := [], laidByText := true, laidKinds := [.widerDeep], laidTests := true, laidLooks := .later }
def RunPartsUptoCardSaid : Prop := Claim7.holds Tryd.pinned (.plain (OpenSpec.upto runPartsSpec)) runPartsUptoCard

/-- THE SECOND FORM's CARD OF 'biremelaw09.RunCounts'. -/
def runCountsUptoCard : Claim7 := { stood := { row := runCountsUptoRow, standIns := [], harness := (true, "c9decca75fae2f008dce2298f8d1bbb6d5c63abe974a10777c03062597ca5265"), looks := true }, kinds := [], alts := [], laidByText := true, laidKinds := [.widerDeep], laidTests := true, laidLooks := .later }
def RunCountsUptoCardSaid : Prop := Claim7.holds Tryd.pinned (.plain (OpenSpec.upto runCountsSpec)) runCountsUptoCard

/-- THE SECOND FORM's CARD OF 'biremelaw09.RunProfile'. -/
def runProfileUptoCard : Claim7 := { stood := { row := runProfileUptoRow, standIns := [], harness := (true, "c9decca75fae2f008dce2298f8d1bbb6d5c63abe974a10777c03062597ca5265"), looks := true }, kinds := [], alts := [], laidByText := true, laidKinds := [.widerDeep], laidTests := true, laidLooks := .later }
def RunProfileUptoCardSaid : Prop := Claim7.holds Tryd.pinned (.plain (OpenSpec.upto runProfileSpec)) runProfileUptoCard

/-- THE SECOND FORM's CARD OF 'biremelaw09.RunNobody'. -/
def runNobodyUptoCard : Claim7 := { stood := { row := runNobodyUptoRow, standIns := [], harness := (true, "c9decca75fae2f008dce2298f8d1bbb6d5c63abe974a10777c03062597ca5265"), looks := true }, kinds := [], alts := [], laidByText := true, laidKinds := [.widerDeep], laidTests := true, laidLooks := .later }
def RunNobodyUptoCardSaid : Prop := Claim7.holds Tryd.pinned (.plain (OpenSpec.upto runNobodySpec)) runNobodyUptoCard

/-- THE SECOND FORM's CARD OF 'biremelaw09.RunPoison'. -/
def runPoisonUptoCard : Claim7 := { stood := { row := runPoisonUptoRow, standIns := [], harness := (true, "c9decca75fae2f008dce2298f8d1bbb6d5c63abe974a10777c03062597ca5265"), looks := true }, kinds := [], alts := [], laidByText := true, laidKinds := [.widerDeep], laidTests := true, laidLooks := .later }
def RunPoisonUptoCardSaid : Prop := Claim7.holds Tryd.pinned (.plain (OpenSpec.upto runPoisonSpec)) runPoisonUptoCard
end Rows
end Go.Proofs.YtfkjkdoloamakaaDoor
