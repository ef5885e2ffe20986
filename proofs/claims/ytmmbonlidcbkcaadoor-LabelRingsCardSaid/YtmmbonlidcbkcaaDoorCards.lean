/-
  DERIVED. GIVEN WITH THE SEED: THE CARDS: each row of YtmmbonlidcbkcaaDoorRows.lean that lists a variable, with what it lists TIED to the program's text (the seventh form; the later family's looks); each row that meets fmt, with fmt's text TOLD by the authors' own Lean function (tested against real Go, not proved from fmt's source: count such statements apart). THE CARD IS WHAT COUNTS. Prove the row's statement (the work); the ties are given (YtmmbonlidcbkcaaDoorTie.lean); close each card by the builder's one call (the guide's Derived/Test/ToyasCard.lean, 'card_holds'). Laid BY PROGRAM, IN A SANDBOX (cutbox-door.mjs). By AI agents, Wed Nov 11 2026. No macro, syntax, notation, axiom, sorry.
-/
import Derived.Test.YtmmbonlidcbkcaaDoorRows
import GoSem.ClaimSeven
namespace Go.Proofs.YtmmbonlidcbkcaaDoor
namespace Rows

/-- THE TIED CARD OF 'hypogeumlaw02.DigestSums'. -/
def digestSumsCard : Claim7 := { stood := { row := digestSumsRow, standIns := [], harness := (true, "1fca77e34e1356affbc74aea2b111a1fe6fe937d67beafae5d247f9e7911ab6c"), looks := false }, kinds := [], alts := [], laidByText := true, laidKinds := [.data], laidTests := true, laidLooks := .later }
def DigestSumsCardSaid : Prop := Claim7.holds Tryd.pinned (.plain (OpenSpec.ofChange digestSumsSpec)) digestSumsCard

/-- THE TIED CARD OF 'hypogeumlaw02.DigestParts'. -/
def digestPartsCard : Claim7 := { stood := { row := digestPartsRow, standIns := [], harness := (true, "1fca77e34e1356affbc74aea2b111a1fe6fe937d67beafae5d247f9e7911ab6c"), looks := false }, kinds := [], alts := [], laidByText := true, laidKinds := [.data], laidTests := true, laidLooks := .later }
def DigestPartsCardSaid : Prop := Claim7.holds Tryd.pinned (.plain (OpenSpec.ofChange digestPartsSpec)) digestPartsCard

/-- THE TIED CARD OF 'hypogeumlaw02.DigestAdds'. -/
def digestAddsCard : Claim7 := { stood := { row := digestAddsRow, standIns := [], harness := (true, "1fca77e34e1356affbc74aea2b111a1fe6fe937d67beafae5d247f9e7911ab6c"), looks := false }, kinds := [], alts := [], laidByText := true, laidKinds := [.data], laidTests := true, laidLooks := .later }
def DigestAddsCardSaid : Prop := Claim7.holds Tryd.pinned (.plain (OpenSpec.ofChange digestAddsSpec)) digestAddsCard

/-- THE TIED CARD OF 'hypogeumlaw02.DigestCut'. -/
def digestCutCard : Claim7 := { stood := { row := digestCutRow, standIns := [], harness := (true, "1fca77e34e1356affbc74aea2b111a1fe6fe937d67beafae5d247f9e7911ab6c"), looks := false }, kinds := [], alts := [], laidByText := true, laidKinds := [.data], laidTests := true, laidLooks := .later }
def DigestCutCardSaid : Prop := Claim7.holds Tryd.pinned (.plain (OpenSpec.ofChange digestCutSpec)) digestCutCard

/-- THE TIED CARD OF 'hypogeumlaw02.DigestCopies'. -/
def digestCopiesCard : Claim7 := { stood := { row := digestCopiesRow, standIns := [], harness := (true, "1fca77e34e1356affbc74aea2b111a1fe6fe937d67beafae5d247f9e7911ab6c"), looks := false }, kinds := [], alts := [], laidByText := true, laidKinds := [.data], laidTests := true, laidLooks := .later }
def DigestCopiesCardSaid : Prop := Claim7.holds Tryd.pinned (.plain (OpenSpec.ofChange digestCopiesSpec)) digestCopiesCard

/-- THE TIED CARD OF 'hypogeumlaw02.DigestNobody'. -/
def digestNobodyCard : Claim7 := { stood := { row := digestNobodyRow, standIns := [], harness := (true, "1fca77e34e1356affbc74aea2b111a1fe6fe937d67beafae5d247f9e7911ab6c"), looks := false }, kinds := [], alts := [], laidByText := true, laidKinds := [.data], laidTests := true, laidLooks := .later }
def DigestNobodyCardSaid : Prop := Claim7.holds Tryd.pinned (.plain (OpenSpec.ofChange digestNobodySpec)) digestNobodyCard

/-- THE TIED CARD OF 'hypogeumlaw03.MacTags'. -/
def macTagsCard : Claim7 := { stood := { row := macTagsRow, standIns := [], harness := (true, "1fca77e34e1356affbc74aea2b111a1fe6fe937d67beafae5d247f9e7911ab6c"), looks := false }, kinds := [], alts := [], laidByText := true, laidKinds := [.data], laidTests := true, laidLooks := .later }
def MacTagsCardSaid : Prop := Claim7.holds Tryd.pinned (.plain (OpenSpec.ofChange macTagsSpec)) macTagsCard

/-- THE TIED CARD OF 'hypogeumlaw03.MacLong'. -/
def macLongCard : Claim7 := { stood := { row := macLongRow, standIns := [], harness := (true, "1fca77e34e1356affbc74aea2b111a1fe6fe937d67beafae5d247f9e7911ab6c"), looks := false }, kinds := [], alts := [], laidByText := true, laidKinds := [.data], laidTests := true, laidLooks := .later }
def MacLongCardSaid : Prop := Claim7.holds Tryd.pinned (.plain (OpenSpec.ofChange macLongSpec)) macLongCard

/-- THE TIED CARD OF 'hypogeumlaw03.MacKeys'. -/
def macKeysCard : Claim7 := { stood := { row := macKeysRow, standIns := [], harness := (true, "1fca77e34e1356affbc74aea2b111a1fe6fe937d67beafae5d247f9e7911ab6c"), looks := false }, kinds := [], alts := [], laidByText := true, laidKinds := [.data], laidTests := true, laidLooks := .later }
def MacKeysCardSaid : Prop := Claim7.holds Tryd.pinned (.plain (OpenSpec.ofChange macKeysSpec)) macKeysCard

/-- THE TIED CARD OF 'hypogeumlaw03.MacHolds'. -/
def macHoldsCard : Claim7 := { stood := { row := macHoldsRow, standIns := [], harness := (true, "1fca77e34e1356affbc74aea2b111a1fe6fe937d67beafae5d247f9e7911ab6c"), looks := false }, kinds := [], alts := [], laidByText := true, laidKinds := [.data], laidTests := true, laidLooks := .later }
def MacHoldsCardSaid : Prop := Claim7.holds Tryd.pinned (.plain (OpenSpec.ofChange macHoldsSpec)) macHoldsCard

/-- THE TIED CARD OF 'hypogeumlaw03.MacOne'. -/
def macOneCard : Claim7 := { stood := { row := macOneRow, standIns := [], harness := (true, "1fca77e34e1356affbc74aea2b111a1fe6fe937d67beafae5d247f9e7911ab6c"), looks := false }, kinds := [], alts := [], laidByText := true, laidKinds := [.data], laidTests := true, laidLooks := .later }
def MacOneCardSaid : Prop := Claim7.holds Tryd.pinned (.plain (OpenSpec.ofChange macOneSpec)) macOneCard

/-- THE TIED CARD OF 'hypogeumlaw03.MacNobody'. -/
def macNobodyCard : Claim7 := { stood := { row := macNobodyRow, standIns := [], harness := (true, "1fca77e34e1356affbc74aea2b111a1fe6fe937d67beafae5d247f9e7911ab6c"), looks := false }, kinds := [], alts := [], laidByText := true, laidKinds := [.data], laidTests := true, laidLooks := .later }
def MacNobodyCardSaid : Prop := Claim7.holds Tryd.pinned (.plain (OpenSpec.ofChange macNobodySpec)) macNobodyCard

/-- THE TIED CARD OF 'hypogeumlaw04.StretchKeys'. -/
def stretchKeysCard : Claim7 := { stood := { row := stretchKeysRow, standIns := [], harness := (true, "1fca77e34e1356affbc74aea2b111a1fe6fe937d67beafae5d247f9e7911ab6c"), looks := false }, kinds := [], alts := [], laidByText := true, laidKinds := [.data], laidTests := true, laidLooks := .later }
def StretchKeysCardSaid : Prop := Claim7.holds Tryd.pinned (.plain (OpenSpec.ofChange stretchKeysSpec)) stretchKeysCard

/-- THE TIED CARD OF 'hypogeumlaw04.StretchBegins'. -/
def stretchBeginsCard : Claim7 := { stood := { row := stretchBeginsRow, standIns := [], harness := (true, "1fca77e34e1356affbc74aea2b111a1fe6fe937d67beafae5d247f9e7911ab6c"), looks := false }, kinds := [], alts := [], laidByText := true, laidKinds := [.data], laidTests := true, laidLooks := .later }
def StretchBeginsCardSaid : Prop := Claim7.holds Tryd.pinned (.plain (OpenSpec.ofChange stretchBeginsSpec)) stretchBeginsCard

/-- THE TIED CARD OF 'hypogeumlaw04.StretchRounds'. -/
def stretchRoundsCard : Claim7 := { stood := { row := stretchRoundsRow, standIns := [], harness := (true, "1fca77e34e1356affbc74aea2b111a1fe6fe937d67beafae5d247f9e7911ab6c"), looks := false }, kinds := [], alts := [], laidByText := true, laidKinds := [.data], laidTests := true, laidLooks := .later }
def StretchRoundsCardSaid : Prop := Claim7.holds Tryd.pinned (.plain (OpenSpec.ofChange stretchRoundsSpec)) stretchRoundsCard

/-- THE TIED CARD OF 'hypogeumlaw04.StretchWhole'. -/
def stretchWholeCard : Claim7 := { stood := { row := stretchWholeRow, standIns := [], harness := (true, "1fca77e34e1356affbc74aea2b111a1fe6fe937d67beafae5d247f9e7911ab6c"), looks := false }, kinds := [], alts := [], laidByText := true, laidKinds := [.data], laidTests := true, laidLooks := .later }
def StretchWholeCardSaid : Prop := Claim7.holds Tryd.pinned (.plain (OpenSpec.ofChange stretchWholeSpec)) stretchWholeCard

/-- THE TIED CARD OF 'hypogeumlaw09.LabelKeys'. -/
def labelKeysCard : Claim7 := { stood := { row := labelKeysRow, standIns := [], harness := (true, "1fca77e34e1356affbc74aea2b111a1fe6fe937d67beafae5d247f9e7911ab6c"), looks := false }, kinds := [], alts := [], laidByText := true, laidKinds := [.data], laidTests := true, laidLooks := .later }
def LabelKeysCardSaid : Prop := Claim7.holds Tryd.pinned (.plain (OpenSpec.ofChange labelKeysSpec)) labelKeysCard

/-- THE TIED CARD OF 'hypogeumlaw09.LabelNames'. -/
def labelNamesCard : Claim7 := { stood := { row := labelNamesRow, standIns := [], harness := (true, "1fca77e34e1356affbc74aea2b111a1fe6fe937d67beafae5d247f9e7911ab6c"), looks := false }, kinds := [], alts := [], laidByText := true, laidKinds := [.data], laidTests := true, laidLooks := .later }
def LabelNamesCardSaid : Prop := Claim7.holds Tryd.pinned (.plain (OpenSpec.ofChange labelNamesSpec)) labelNamesCard

/-- THE TIED CARD OF 'hypogeumlaw09.LabelRings'. -/
def labelRingsCard : Claim7 := { stood := { row := labelRingsRow, standIns := [], harness := (true, "1fca77e34e1356affbc74aea2b111a1fe6fe937d67beafae5d247f9e7911ab6c"), looks := false }, kinds := [], alts := [], laidByText := true, laidKinds := [.data], laidTests := true, laidLooks := .later }
def LabelRingsCardSaid : Prop := Claim7.holds Tryd.pinned (.plain (OpenSpec.ofChange labelRingsSpec)) labelRingsCard

/-- THE TIED CARD OF 'hypogeumlaw09.LabelNobody'. -/
def labelNobodyCard : Claim7 := { stood := { row := labelNobodyRow, standIns := [], harness := (true, "1fca77e34e1356affbc74aea2b111a1fe6fe937d67beafae5d247f9e7911ab6c"), looks := false }, kinds := [], alts := [], laidByText := true, laidKinds := [.data], laidTests := true, laidLooks := .later }
def LabelNobodyCardSaid : Prop := Claim7.holds Tryd.pinned (.plain (OpenSpec.ofChange labelNobodySpec)) labelNobodyCard

/-- THE SECOND FORM's CARD OF 'hypogeumlaw02.DigestSums'. -/
def digestSumsUptoCard : Claim7 := { stood := { row := digestSumsUptoRow, standIns := [], harness := (true, "1fca77e34e1356affbc74aea2b111a1fe6fe937d67beafae5d247f9e7911ab6c"), looks := false }, kinds := [], alts := [], laidByText := true, laidKinds := [.data], laidTests := true, laidLooks := .later }
def DigestSumsUptoCardSaid : Prop := Claim7.holds Tryd.pinned (.plain (OpenSpec.upto digestSumsSpec)) digestSumsUptoCard

/-- THE SECOND FORM's CARD OF 'hypogeumlaw02.DigestParts'. -/
def digestPartsUptoCard : Claim7 := { stood := { row := digestPartsUptoRow, standIns := [], harness := (true, "1fca77e34e1356affbc74aea2b111a1fe6fe937d67beafae5d247f9e7911ab6c"), looks := false }, kinds := [], alts := [], laidByText := true, laidKinds := [.data], laidTests := true, laidLooks := .later }
def DigestPartsUptoCardSaid : Prop := Claim7.holds Tryd.pinned (.plain (OpenSpec.upto digestPartsSpec)) digestPartsUptoCard

/-- THE SECOND FORM's CARD OF 'hypogeumlaw02.DigestAdds'. -/
def digestAddsUptoCard : Claim7 := { stood := { row := digestAddsUptoRow, standIns := [], harness := (true, "1fca77e34e1356affbc74aea2b111a1fe6fe937d67beafae5d247f9e7911ab6c"), looks := false }, kinds := [], alts := [], laidByText := true, laidKinds := [.data], laidTests := true, laidLooks := .later }
def DigestAddsUptoCardSaid : Prop := Claim7.holds Tryd.pinned (.plain (OpenSpec.upto digestAddsSpec)) digestAddsUptoCard

/-- THE SECOND FORM's CARD OF 'hypogeumlaw02.DigestCut'. -/
def digestCutUptoCard : Claim7 := { stood := { row := digestCutUptoRow, standIns := [], harness := (true, "1fca77e34e1356affbc74aea2b111a1fe6fe937d67beafae5d247f9e7911ab6c"), looks := false }, kinds := [], alts := [], laidByText := true, laidKinds := [.data], laidTests := true, laidLooks := .later }
def DigestCutUptoCardSaid : Prop := Claim7.holds Tryd.pinned (.plain (OpenSpec.upto digestCutSpec)) digestCutUptoCard

/-- THE SECOND FORM's CARD OF 'hypogeumlaw02.DigestCopies'. -/
def digestCopiesUptoCard : Claim7 := { stood := { row := digestCopiesUptoRow, standIns := [], harness := (true, "1fca77e34e1356affbc74aea2b111a1fe6fe937d67beafae5d247f9e7911ab6c"), looks := false }, kinds := [], alts := [], laidByText := true, laidKinds := [.data], laidTests := true, laidLooks := .later }
def DigestCopiesUptoCardSaid : Prop := Claim7.holds Tryd.pinned (.plain (OpenSpec.upto digestCopiesSpec)) digestCopiesUptoCard

/-- THE SECOND FORM's CARD OF 'hypogeumlaw02.DigestNobody'. -/
def digestNobodyUptoCard : Claim7 := { stood := { row := digestNobodyUptoRow, standIns := [], harness := (true, "1fca77e34e1356affbc74aea2b111a1fe6fe937d67beafae5d247f9e7911ab6c"), looks := false }, kinds := [], alts := [], laidByText := true, laidKinds := [.data], laidTests := true, laidLooks := .later }
def DigestNobodyUptoCardSaid : Prop := Claim7.holds Tryd.pinned (.plain (OpenSpec.upto digestNobodySpec)) digestNobodyUptoCard

/-- THE SECOND FORM's CARD OF 'hypogeumlaw03.MacTags'. -/
def macTagsUptoCard : Claim7 := { stood := { row := macTagsUptoRow, standIns := [], harness := (true, "1fca77e34e1356affbc74aea2b111a1fe6fe937d67beafae5d247f9e7911ab6c"), looks := false }, kinds := [], alts := [], laidByText := true, laidKinds := [.data], laidTests := true, laidLooks := .later }
def MacTagsUptoCardSaid : Prop := Claim7.holds Tryd.pinned (.plain (OpenSpec.upto macTagsSpec)) macTagsUptoCard

/-- THE SECOND FORM's CARD OF 'hypogeumlaw03.MacLong'. -/
def macLongUptoCard : Claim7 := { stood := { row := macLongUptoRow, standIns := [], harness := (true, "1fca77e34e1356affbc74aea2b111a1fe6fe937d67beafae5d247f9e7911ab6c"), looks := false }, kinds := [], alts := [], laidByText := true, laidKinds := [.data], laidTests := true, laidLooks := .later }
def MacLongUptoCardSaid : Prop := Claim7.holds Tryd.pinned (.plain (OpenSpec.upto macLongSpec)) macLongUptoCard

/-- THE SECOND FORM's CARD OF 'hypogeumlaw03.MacKeys'. -/
def macKeysUptoCard : Claim7 := { stood := { row := macKeysUptoRow, standIns := [], harness := (true, "1fca77e34e1356affbc74aea2b111a1fe6fe937d67beafae5d247f9e7911ab6c"), looks := false }, kinds := [], alts := [], laidByText := true, laidKinds := [.data], laidTests := true, laidLooks := .later }
def MacKeysUptoCardSaid : Prop := Claim7.holds Tryd.pinned (.plain (OpenSpec.upto macKeysSpec)) macKeysUptoCard

/-- THE SECOND FORM's CARD OF 'hypogeumlaw03.MacHolds'. -/
def macHoldsUptoCard : Claim7 := { stood := { row := macHoldsUptoRow, standIns := [], harness := (true, "1fca77e34e1356affbc74aea2b111a1fe6fe937d67beafae5d247f9e7911ab6c"), looks := false }, kinds := [], alts := [], laidByText := true, laidKinds := [.data], laidTests := true, laidLooks := .later }
def MacHoldsUptoCardSaid : Prop := Claim7.holds Tryd.pinned (.plain (OpenSpec.upto macHoldsSpec)) macHoldsUptoCard

/-- THE SECOND FORM's CARD OF 'hypogeumlaw03.MacOne'. -/
def macOneUptoCard : Claim7 := { stood := { row := macOneUptoRow, standIns := [], harness := (true, "1fca77e34e1356affbc74aea2b111a1fe6fe937d67beafae5d247f9e7911ab6c"), looks := false }, kinds := [], alts := [], laidByText := true, laidKinds := [.data], laidTests := true, laidLooks := .later }
def MacOneUptoCardSaid : Prop := Claim7.holds Tryd.pinned (.plain (OpenSpec.upto macOneSpec)) macOneUptoCard

/-- THE SECOND FORM's CARD OF 'hypogeumlaw03.MacNobody'. -/
def macNobodyUptoCard : Claim7 := { stood := { row := macNobodyUptoRow, standIns := [], harness := (true, "1fca77e34e1356affbc74aea2b111a1fe6fe937d67beafae5d247f9e7911ab6c"), looks := false }, kinds := [], alts := [], laidByText := true, laidKinds := [.data], laidTests := true, laidLooks := .later }
def MacNobodyUptoCardSaid : Prop := Claim7.holds Tryd.pinned (.plain (OpenSpec.upto macNobodySpec)) macNobodyUptoCard

/-- THE SECOND FORM's CARD OF 'hypogeumlaw04.StretchKeys'. -/
def stretchKeysUptoCard : Claim7 := { stood := { row := stretchKeysUptoRow, standIns := [], harness := (true, "1fca77e34e1356affbc74aea2b111a1fe6fe937d67beafae5d247f9e7911ab6c"), looks := false }, kinds := [], alts := [], laidByText := true, laidKinds := [.data], laidTests := true, laidLooks := .later }
def StretchKeysUptoCardSaid : Prop := Claim7.holds Tryd.pinned (.plain (OpenSpec.upto stretchKeysSpec)) stretchKeysUptoCard

/-- THE SECOND FORM's CARD OF 'hypogeumlaw04.StretchBegins'. -/
def stretchBeginsUptoCard : Claim7 := { stood := { row := stretchBeginsUptoRow, standIns := [], harness := (true, "1fca77e34e1356affbc74aea2b111a1fe6fe937d67beafae5d247f9e7911ab6c"), looks := false }, kinds := [], alts := [], laidByText := true, laidKinds := [.data], laidTests := true, laidLooks := .later }
def StretchBeginsUptoCardSaid : Prop := Claim7.holds Tryd.pinned (.plain (OpenSpec.upto stretchBeginsSpec)) stretchBeginsUptoCard

/-- THE SECOND FORM's CARD OF 'hypogeumlaw04.StretchRounds'. -/
def stretchRoundsUptoCard : Claim7 := { stood := { row := stretchRoundsUptoRow, standIns := [], harness := (true, "1fca77e34e1356affbc74aea2b111a1fe6fe937d67beafae5d247f9e7911ab6c"), looks := false }, kinds := [], alts := [], laidByText := true, laidKinds := [.data], laidTests := true, laidLooks := .later }
def StretchRoundsUptoCardSaid : Prop := Claim7.holds Tryd.pinned (.plain (OpenSpec.upto stretchRoundsSpec)) stretchRoundsUptoCard

/-- THE SECOND FORM's CARD OF 'hypogeumlaw04.StretchWhole'. -/
def stretchWholeUptoCard : Claim7 := { stood := { row := stretchWholeUptoRow, standIns := [], harness := (true, "1fca77e34e1356affbc74aea2b111a1fe6fe937d67beafae5d247f9e7911ab6c"), looks := false }, kinds := [], alts := [], laidByText := true, laidKinds := [.data], laidTests := true, laidLooks := .later }
def StretchWholeUptoCardSaid : Prop := Claim7.holds Tryd.pinned (.plain (OpenSpec.upto stretchWholeSpec)) stretchWholeUptoCard

/-- THE SECOND FORM's CARD OF 'hypogeumlaw09.LabelKeys'. -/
def labelKeysUptoCard : Claim7 := { stood := { row := labelKeysUptoRow, standIns := [], harness := (true, "1fca77e34e1356affbc74aea2b111a1fe6fe937d67beafae5d247f9e7911ab6c"), looks := false }, kinds := [], alts := [], laidByText := true, laidKinds := [.data], laidTests := true, laidLooks := .later }
def LabelKeysUptoCardSaid : Prop := Claim7.holds Tryd.pinned (.plain (OpenSpec.upto labelKeysSpec)) labelKeysUptoCard

/-- THE SECOND FORM's CARD OF 'hypogeumlaw09.LabelNames'. -/
def labelNamesUptoCard : Claim7 := { stood := { row := labelNamesUptoRow, standIns := [], harness := (true, "1fca77e34e1356affbc74aea2b111a1fe6fe937d67beafae5d247f9e7911ab6c"), looks := false }, kinds := [], alts := [], laidByText := true, laidKinds := [.data], laidTests := true, laidLooks := .later }
def LabelNamesUptoCardSaid : Prop := Claim7.holds Tryd.pinned (.plain (OpenSpec.upto labelNamesSpec)) labelNamesUptoCard

/-- THE SECOND FORM's CARD OF 'hypogeumlaw09.LabelRings'. -/
def labelRingsUptoCard : Claim7 := { stood := { row := labelRingsUptoRow, standIns := [], harness := (true, "1fca77e34e1356affbc74aea2b111a1fe6fe937d67beafae5d247f9e7911ab6c"), looks := false }, kinds := [], alts := [], laidByText := true, laidKinds := [.data], laidTests := true, laidLooks := .later }
def LabelRingsUptoCardSaid : Prop := Claim7.holds Tryd.pinned (.plain (OpenSpec.upto labelRingsSpec)) labelRingsUptoCard

/-- THE SECOND FORM's CARD OF 'hypogeumlaw09.LabelNobody'. -/
def labelNobodyUptoCard : Claim7 := { stood := { row := labelNobodyUptoRow, standIns := [], harness := (true, "1fca77e34e1356affbc74aea2b111a1fe6fe937d67beafae5d247f9e7911ab6c"), looks := false }, kinds := [], alts := [], laidByText := true, laidKinds := [.data], laidTests := true, laidLooks := .later }
def LabelNobodyUptoCardSaid : Prop := Claim7.holds Tryd.pinned (.plain (OpenSpec.upto labelNobodySpec)) labelNobodyUptoCard
end Rows
end Go.Proofs.YtmmbonlidcbkcaaDoor
