/-
  DERIVED. GIVEN WITH THE SEED: THE CARDS: each row of YthkgnhcknkjgdaaDoorRows.lean that lists a variable, with what it lists TIED to the program's text (the seventh form; the later family's looks); each row that meets fmt, with fmt's text TOLD by the authors' own Lean function (tested against real Go, not proved from fmt's source: count such statements apart). THE CARD IS WHAT COUNTS. Prove the row's statement (the work); the ties are given (YthkgnhcknkjgdaaDoorTie.lean); close each card by the builder's one call (the guide's Derived/Test/ToyasCard.lean, 'card_holds'). Laid BY PROGRAM, IN A SANDBOX (cutbox-door.mjs). By AI agents, Wed Nov 11 2026. No macro, syntax, notation, axiom, sorry.
-/
import Derived.Test.YthkgnhcknkjgdaaDoorRows
import GoSem.ClaimSeven
namespace Go.Proofs.YthkgnhcknkjgdaaDoor
namespace Rows

/-- THE TIED CARD OF 'hachurelaw10.PinSees'. -/
def pinSeesCard : Claim7 := { stood := { row := pinSeesRow, standIns := [], harness := (true, "c939b2e9aa2e704735374d1375bf5f67aac194cf5e5264b5c163ba10e9ee7381"), looks := false }, kinds := [], alts := [], laidByText := true, laidKinds := [.data, .data], laidTests := true, laidLooks := .later }
def PinSeesCardSaid : Prop := Claim7.holds Tryd.pinned (.plain (OpenSpec.ofChange pinSeesSpec)) pinSeesCard

/-- THE TIED CARD OF 'hachurelaw10.PinLengths'. -/
def pinLengthsCard : Claim7 := { stood := { row := pinLengthsRow, standIns := [], harness := (true, "c939b2e9aa2e704735374d1375bf5f67aac194cf5e5264b5c163ba10e9ee7381"), looks := false }, kinds := [], alts := [], laidByText := true, laidKinds := [.data, .data], laidTests := true, laidLooks := .later }
def PinLengthsCardSaid : Prop := Claim7.holds Tryd.pinned (.plain (OpenSpec.ofChange pinLengthsSpec)) pinLengthsCard

/-- THE TIED CARD OF 'hachurelaw10.PinBest'. -/
def pinBestCard : Claim7 := { stood := { row := pinBestRow, standIns := [], harness := (true, "c939b2e9aa2e704735374d1375bf5f67aac194cf5e5264b5c163ba10e9ee7381"), looks := false }, kinds := [], alts := [], laidByText := true, laidKinds := [.data, .data], laidTests := true, laidLooks := .later }
def PinBestCardSaid : Prop := Claim7.holds Tryd.pinned (.plain (OpenSpec.ofChange pinBestSpec)) pinBestCard

/-- THE TIED CARD OF 'hachurelaw10.PinKnown'. -/
def pinKnownCard : Claim7 := { stood := { row := pinKnownRow, standIns := [], harness := (true, "c939b2e9aa2e704735374d1375bf5f67aac194cf5e5264b5c163ba10e9ee7381"), looks := false }, kinds := [], alts := [], laidByText := true, laidKinds := [.data, .data], laidTests := true, laidLooks := .later }
def PinKnownCardSaid : Prop := Claim7.holds Tryd.pinned (.plain (OpenSpec.ofChange pinKnownSpec)) pinKnownCard

/-- THE TIED CARD OF 'hachurelaw10.PinLeast'. -/
def pinLeastCard : Claim7 := { stood := { row := pinLeastRow, standIns := [], harness := (true, "c939b2e9aa2e704735374d1375bf5f67aac194cf5e5264b5c163ba10e9ee7381"), looks := false }, kinds := [], alts := [], laidByText := true, laidKinds := [.data, .data], laidTests := true, laidLooks := .later }
def PinLeastCardSaid : Prop := Claim7.holds Tryd.pinned (.plain (OpenSpec.ofChange pinLeastSpec)) pinLeastCard

/-- THE TIED CARD OF 'hachurelaw10.PinTaller'. -/
def pinTallerCard : Claim7 := { stood := { row := pinTallerRow, standIns := [], harness := (true, "c939b2e9aa2e704735374d1375bf5f67aac194cf5e5264b5c163ba10e9ee7381"), looks := false }, kinds := [], alts := [], laidByText := true, laidKinds := [.data, .data], laidTests := true, laidLooks := .later }
def PinTallerCardSaid : Prop := Claim7.holds Tryd.pinned (.plain (OpenSpec.ofChange pinTallerSpec)) pinTallerCard

/-- THE TIED CARD OF 'hachurelaw10.PinStuck'. -/
def pinStuckCard : Claim7 := { stood := { row := pinStuckRow, standIns := [], harness := (true, "c939b2e9aa2e704735374d1375bf5f67aac194cf5e5264b5c163ba10e9ee7381"), looks := false }, kinds := [], alts := [], laidByText := true, laidKinds := [.data, .data], laidTests := true, laidLooks := .later }
def PinStuckCardSaid : Prop := Claim7.holds Tryd.pinned (.plain (OpenSpec.ofChange pinStuckSpec)) pinStuckCard

/-- THE TIED CARD OF 'hachurelaw10.PinAlone'. -/
def pinAloneCard : Claim7 := { stood := { row := pinAloneRow, standIns := [], harness := (true, "c939b2e9aa2e704735374d1375bf5f67aac194cf5e5264b5c163ba10e9ee7381"), looks := false }, kinds := [], alts := [], laidByText := true, laidKinds := [.data, .data], laidTests := true, laidLooks := .later }
def PinAloneCardSaid : Prop := Claim7.holds Tryd.pinned (.plain (OpenSpec.ofChange pinAloneSpec)) pinAloneCard

/-- THE TIED CARD OF 'hachurelaw10.PinPlaces'. -/
def pinPlacesCard : Claim7 := { stood := { row := pinPlacesRow, standIns := [], harness := (true, "c939b2e9aa2e704735374d1375bf5f67aac194cf5e5264b5c163ba10e9ee7381"), looks := false }, kinds := [], alts := [], laidByText := true, laidKinds := [.data, .data], laidTests := true, laidLooks := .later }
def PinPlacesCardSaid : Prop := Claim7.holds Tryd.pinned (.plain (OpenSpec.ofChange pinPlacesSpec)) pinPlacesCard

/-- THE TIED CARD OF 'hachurelaw10.PinCovered'. -/
def pinCoveredCard : Claim7 := { stood := { row := pinCoveredRow, standIns := [], harness := (true, "c939b2e9aa2e704735374d1375bf5f67aac194cf5e5264b5c163ba10e9ee7381"), looks := false }, kinds := [], alts := [], laidByText := true, laidKinds := [.data, .data], laidTests := true, laidLooks := .later }
def PinCoveredCardSaid : Prop := Claim7.holds Tryd.pinned (.plain (OpenSpec.ofChange pinCoveredSpec)) pinCoveredCard

/-- THE TIED CARD OF 'hachurelaw10.PinOff'. -/
def pinOffCard : Claim7 := { stood := { row := pinOffRow, standIns := [], harness := (true, "c939b2e9aa2e704735374d1375bf5f67aac194cf5e5264b5c163ba10e9ee7381"), looks := false }, kinds := [], alts := [], laidByText := true, laidKinds := [.data, .data], laidTests := true, laidLooks := .later }
def PinOffCardSaid : Prop := Claim7.holds Tryd.pinned (.plain (OpenSpec.ofChange pinOffSpec)) pinOffCard

/-- THE TIED CARD OF 'hachurelaw10.PinMirrored'. -/
def pinMirroredCard : Claim7 := { stood := { row := pinMirroredRow, standIns := [], harness := (true, "c939b2e9aa2e704735374d1375bf5f67aac194cf5e5264b5c163ba10e9ee7381"), looks := false }, kinds := [], alts := [], laidByText := true, laidKinds := [.data, .data], laidTests := true, laidLooks := .later }
def PinMirroredCardSaid : Prop := Claim7.holds Tryd.pinned (.plain (OpenSpec.ofChange pinMirroredSpec)) pinMirroredCard

/-- THE TIED CARD OF 'hachurelaw10.PinHigher'. -/
def pinHigherCard : Claim7 := { stood := { row := pinHigherRow, standIns := [], harness := (true, "c939b2e9aa2e704735374d1375bf5f67aac194cf5e5264b5c163ba10e9ee7381"), looks := false }, kinds := [], alts := [], laidByText := true, laidKinds := [.data, .data], laidTests := true, laidLooks := .later }
def PinHigherCardSaid : Prop := Claim7.holds Tryd.pinned (.plain (OpenSpec.ofChange pinHigherSpec)) pinHigherCard

/-- THE SECOND FORM's CARD OF 'hachurelaw10.PinSees'. -/
def pinSeesUptoCard : Claim7 := { stood := { row := pinSeesUptoRow, standIns := [], harness := (true, "c939b2e9aa2e704735374d1375bf5f67aac194cf5e5264b5c163ba10e9ee7381"), looks := false }, kinds := [], alts := [], laidByText := true, laidKinds := [.data, .data], laidTests := true, laidLooks := .later }
def PinSeesUptoCardSaid : Prop := Claim7.holds Tryd.pinned (.plain (OpenSpec.upto pinSeesSpec)) pinSeesUptoCard

/-- THE SECOND FORM's CARD OF 'hachurelaw10.PinLengths'. -/
def pinLengthsUptoCard : Claim7 := { stood := { row := pinLengthsUptoRow, standIns := [], harness := (true, "c939b2e9aa2e704735374d1375bf5f67aac194cf5e5264b5c163ba10e9ee7381"), looks := false }, kinds := [], alts := [], laidByText := true, laidKinds := [.data, .data], laidTests := true, laidLooks := .later }
def PinLengthsUptoCardSaid : Prop := Claim7.holds Tryd.pinned (.plain (OpenSpec.upto pinLengthsSpec)) pinLengthsUptoCard

/-- THE SECOND FORM's CARD OF 'hachurelaw10.PinBest'. -/
def pinBestUptoCard : Claim7 := { stood := { row := pinBestUptoRow, standIns := [], harness := (true, "c939b2e9aa2e704735374d1375bf5f67aac194cf5e5264b5c163ba10e9ee7381"), looks := false }, kinds := [], alts := [], laidByText := true, laidKinds := [.data, .data], laidTests := true, laidLooks := .later }
def PinBestUptoCardSaid : Prop := Claim7.holds Tryd.pinned (.plain (OpenSpec.upto pinBestSpec)) pinBestUptoCard

/-- THE SECOND FORM's CARD OF 'hachurelaw10.PinKnown'. -/
def pinKnownUptoCard : Claim7 := { stood := { row := pinKnownUptoRow, standIns := [], harness := (true, "c939b2e9aa2e704735374d1375bf5f67aac194cf5e5264b5c163ba10e9ee7381"), looks := false }, kinds := [], alts := [], laidByText := true, laidKinds := [.data, .data], laidTests := true, laidLooks := .later }
def PinKnownUptoCardSaid : Prop := Claim7.holds Tryd.pinned (.plain (OpenSpec.upto pinKnownSpec)) pinKnownUptoCard

/-- THE SECOND FORM's CARD OF 'hachurelaw10.PinLeast'. -/
def pinLeastUptoCard : Claim7 := { stood := { row := pinLeastUptoRow, standIns := [], harness := (true, "c939b2e9aa2e704735374d1375bf5f67aac194cf5e5264b5c163ba10e9ee7381"), looks := false }, kinds := [], alts := [], laidByText := true, laidKinds := [.data, .data], laidTests := true, laidLooks := .later }
def PinLeastUptoCardSaid : Prop := Claim7.holds Tryd.pinned (.plain (OpenSpec.upto pinLeastSpec)) pinLeastUptoCard

/-- THE SECOND FORM's CARD OF 'hachurelaw10.PinTaller'. -/
def pinTallerUptoCard : Claim7 := { stood := { row := pinTallerUptoRow, standIns := [], harness := (true, "c939b2e9aa2e704735374d1375bf5f67aac194cf5e5264b5c163ba10e9ee7381"), looks := false }, kinds := [], alts := [], laidByText := true, laidKinds := [.data, .data], laidTests := true, laidLooks := .later }
def PinTallerUptoCardSaid : Prop := Claim7.holds Tryd.pinned (.plain (OpenSpec.upto pinTallerSpec)) pinTallerUptoCard

/-- THE SECOND FORM's CARD OF 'hachurelaw10.PinStuck'. -/
def pinStuckUptoCard : Claim7 := { stood := { row := pinStuckUptoRow, standIns := [], harness := (true, "c939b2e9aa2e704735374d1375bf5f67aac194cf5e5264b5c163ba10e9ee7381"), looks := false }, kinds := [], alts := [], laidByText := true, laidKinds := [.data, .data], laidTests := true, laidLooks := .later }
def PinStuckUptoCardSaid : Prop := Claim7.holds Tryd.pinned (.plain (OpenSpec.upto pinStuckSpec)) pinStuckUptoCard

/-- THE SECOND FORM's CARD OF 'hachurelaw10.PinAlone'. -/
def pinAloneUptoCard : Claim7 := { stood := { row := pinAloneUptoRow, standIns := [], harness := (true, "c939b2e9aa2e704735374d1375bf5f67aac194cf5e5264b5c163ba10e9ee7381"), looks := false }, kinds := [], alts := [], laidByText := true, laidKinds := [.data, .data], laidTests := true, laidLooks := .later }
def PinAloneUptoCardSaid : Prop := Claim7.holds Tryd.pinned (.plain (OpenSpec.upto pinAloneSpec)) pinAloneUptoCard

/-- THE SECOND FORM's CARD OF 'hachurelaw10.PinPlaces'. -/
def pinPlacesUptoCard : Claim7 := { stood := { row := pinPlacesUptoRow, standIns := [], harness := (true, "c939b2e9aa2e704735374d1375bf5f67aac194cf5e5264b5c163ba10e9ee7381"), looks := false }, kinds := [], alts := [], laidByText := true, laidKinds := [.data, .data], laidTests := true, laidLooks := .later }
def PinPlacesUptoCardSaid : Prop := Claim7.holds Tryd.pinned (.plain (OpenSpec.upto pinPlacesSpec)) pinPlacesUptoCard

/-- THE SECOND FORM's CARD OF 'hachurelaw10.PinCovered'. -/
def pinCoveredUptoCard : Claim7 := { stood := { row := pinCoveredUptoRow, standIns := [], harness := (true, "c939b2e9aa2e704735374d1375bf5f67aac194cf5e5264b5c163ba10e9ee7381"), looks := false }, kinds := [], alts := [], laidByText := true, laidKinds := [.data, .data], laidTests := true, laidLooks := .later }
def PinCoveredUptoCardSaid : Prop := Claim7.holds Tryd.pinned (.plain (OpenSpec.upto pinCoveredSpec)) pinCoveredUptoCard

/-- THE SECOND FORM's CARD OF 'hachurelaw10.PinOff'. -/
def pinOffUptoCard : Claim7 := { stood := { row := pinOffUptoRow, standIns := [], harness := (true, "c939b2e9aa2e704735374d1375bf5f67aac194cf5e5264b5c163ba10e9ee7381"), looks := false }, kinds := [], alts := [], laidByText := true, laidKinds := [.data, .data], laidTests := true, laidLooks := .later }
def PinOffUptoCardSaid : Prop := Claim7.holds Tryd.pinned (.plain (OpenSpec.upto pinOffSpec)) pinOffUptoCard

/-- THE SECOND FORM's CARD OF 'hachurelaw10.PinMirrored'. -/
def pinMirroredUptoCard : Claim7 := { stood := { row := pinMirroredUptoRow, standIns := [], harness := (true, "c939b2e9aa2e704735374d1375bf5f67aac194cf5e5264b5c163ba10e9ee7381"), looks := false }, kinds := [], alts := [], laidByText := true, laidKinds := [.data, .data], laidTests := true, laidLooks := .later }
def PinMirroredUptoCardSaid : Prop := Claim7.holds Tryd.pinned (.plain (OpenSpec.upto pinMirroredSpec)) pinMirroredUptoCard

/-- THE SECOND FORM's CARD OF 'hachurelaw10.PinHigher'. -/
def pinHigherUptoCard : Claim7 := { stood := { row := pinHigherUptoRow, standIns := [], harness := (true, "c939b2e9aa2e704735374d1375bf5f67aac194cf5e5264b5c163ba10e9ee7381"), looks := false }, kinds := [], alts := [], laidByText := true, laidKinds := [.data, .data], laidTests := true, laidLooks := .later }
def PinHigherUptoCardSaid : Prop := Claim7.holds Tryd.pinned (.plain (OpenSpec.upto pinHigherSpec)) pinHigherUptoCard
end Rows
end Go.Proofs.YthkgnhcknkjgdaaDoor
