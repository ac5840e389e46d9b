/-
  DERIVED. GIVEN WITH THE SEED: THE CARDS: each row of YtbbnaagfnpeloaaDoorRows.lean that lists a variable, with what it lists TIED to the program's text (the seventh form; the later family's looks); each row that meets fmt, with fmt's text TOLD by the authors' own Lean function (tested against real Go, not proved from fmt's source: count such statements apart). THE CARD IS WHAT COUNTS. Prove the row's statement (the work); the ties are given (YtbbnaagfnpeloaaDoorTie.lean); close each card by the builder's one call (the guide's Derived/Test/ToyasCard.lean, 'card_holds'). Laid BY PROGRAM, IN A SANDBOX (cutbox-door.mjs). By AI agents, Wed Nov 11 2026. No macro, syntax, notation, axiom, sorry.
-/
import Derived.Test.YtbbnaagfnpeloaaDoorRows
import GoSem.ClaimSeven
namespace Go.Proofs.YtbbnaagfnpeloaaDoor
namespace Rows

/-- THE TIED CARD OF 'rampartlaw03.WireRequests'. -/
def wireRequestsCard : Claim7 := { stood := { row := wireRequestsRow, standIns := [], harness := (true, "c2329ac340fc253bfb1268f072fbd522122f8a6260a066e26f75ecaee2b007b3"), looks := false }, kinds := [], alts := [], laidByText := true, laidKinds := [.wider, .wider], laidTests := true, laidLooks := .later }
def WireRequestsCardSaid : Prop := Claim7.holds Tryd.pinned (.plain (OpenSpec.ofChange wireRequestsSpec)) wireRequestsCard

/-- THE TIED CARD OF 'rampartlaw03.WireHandles'. -/
def wireHandlesCard : Claim7 := { stood := { row := wireHandlesRow, standIns := [], harness := (true, "c2329ac340fc253bfb1268f072fbd522122f8a6260a066e26f75ecaee2b007b3"), looks := false }, kinds := [], alts := [], laidByText := true, laidKinds := [.wider, .wider], laidTests := true, laidLooks := .later }
def WireHandlesCardSaid : Prop := Claim7.holds Tryd.pinned (.plain (OpenSpec.ofChange wireHandlesSpec)) wireHandlesCard

/-- THE TIED CARD OF 'rampartlaw03.WireSplits'. -/
def wireSplitsCard : Claim7 := { stood := { row := wireSplitsRow, standIns := [], harness := (true, "c2329ac340fc253bfb1268f072fbd522122f8a6260a066e26f75ecaee2b007b3"), looks := false }, kinds := [], alts := [], laidByText := true, laidKinds := [.wider, .wider], laidTests := true, laidLooks := .later }
def WireSplitsCardSaid : Prop := Claim7.holds Tryd.pinned (.plain (OpenSpec.ofChange wireSplitsSpec)) wireSplitsCard

/-- THE TIED CARD OF 'rampartlaw03.WireReplies'. -/
def wireRepliesCard : Claim7 := { stood := { row := wireRepliesRow, standIns := [], harness := (true, "c2329ac340fc253bfb1268f072fbd522122f8a6260a066e26f75ecaee2b007b3"), looks := false }, kinds := [], alts := [], laidByText := true, laidKinds := [.wider, .wider], laidTests := true, laidLooks := .later }
def WireRepliesCardSaid : Prop := Claim7.holds Tryd.pinned (.plain (OpenSpec.ofChange wireRepliesSpec)) wireRepliesCard

/-- THE TIED CARD OF 'rampartlaw03.WireParses'. -/
def wireParsesCard : Claim7 := { stood := { row := wireParsesRow, standIns := [], harness := (true, "c2329ac340fc253bfb1268f072fbd522122f8a6260a066e26f75ecaee2b007b3"), looks := false }, kinds := [], alts := [], laidByText := true, laidKinds := [.wider, .wider], laidTests := true, laidLooks := .later }
def WireParsesCardSaid : Prop := Claim7.holds Tryd.pinned (.plain (OpenSpec.ofChange wireParsesSpec)) wireParsesCard

/-- THE TIED CARD OF 'rampartlaw03.WireJust'. -/
def wireJustCard : Claim7 := { stood := { row := wireJustRow, standIns := [], harness := (true, "c2329ac340fc253bfb1268f072fbd522122f8a6260a066e26f75ecaee2b007b3"), looks := false }, kinds := [], alts := [], laidByText := true, laidKinds := [.wider, .wider], laidTests := true, laidLooks := .later }
def WireJustCardSaid : Prop := Claim7.holds Tryd.pinned (.plain (OpenSpec.ofChange wireJustSpec)) wireJustCard

/-- THE TIED CARD OF 'rampartlaw03.WireBack'. -/
def wireBackCard : Claim7 := { stood := { row := wireBackRow, standIns := [], harness := (true, "c2329ac340fc253bfb1268f072fbd522122f8a6260a066e26f75ecaee2b007b3"), looks := false }, kinds := [], alts := [], laidByText := true, laidKinds := [.wider, .wider], laidTests := true, laidLooks := .later }
def WireBackCardSaid : Prop := Claim7.holds Tryd.pinned (.plain (OpenSpec.ofChange wireBackSpec)) wireBackCard

/-- THE SECOND FORM's CARD OF 'rampartlaw03.WireRequests'. -/
def wireRequestsUptoCard : Claim7 := { stood := { row := wireRequestsUptoRow, standIns := [], harness := (true, "c2329ac340fc253bfb1268f072fbd522122f8a6260a066e26f75ecaee2b007b3"), looks := false }, kinds := [], alts := [], laidByText := true, laidKinds := [.wider, .wider], laidTests := true, laidLooks := .later }
def WireRequestsUptoCardSaid : Prop := Claim7.holds Tryd.pinned (.plain (OpenSpec.upto wireRequestsSpec)) wireRequestsUptoCard

/-- THE SECOND FORM's CARD OF 'rampartlaw03.WireHandles'. -/
def wireHandlesUptoCard : Claim7 := { stood := { row := wireHandlesUptoRow, standIns := [], harness := (true, "c2329ac340fc253bfb1268f072fbd522122f8a6260a066e26f75ecaee2b007b3"), looks := false }, kinds := [], alts := [], laidByText := true, laidKinds := [.wider, .wider], laidTests := true, laidLooks := .later }
def WireHandlesUptoCardSaid : Prop := Claim7.holds Tryd.pinned (.plain (OpenSpec.upto wireHandlesSpec)) wireHandlesUptoCard

/-- THE SECOND FORM's CARD OF 'rampartlaw03.WireSplits'. -/
def wireSplitsUptoCard : Claim7 := { stood := { row := wireSplitsUptoRow, standIns := [], harness := (true, "c2329ac340fc253bfb1268f072fbd522122f8a6260a066e26f75ecaee2b007b3"), looks := false }, kinds := [], alts := [], laidByText := true, laidKinds := [.wider, .wider], laidTests := true, laidLooks := .later }
def WireSplitsUptoCardSaid : Prop := Claim7.holds Tryd.pinned (.plain (OpenSpec.upto wireSplitsSpec)) wireSplitsUptoCard

/-- THE SECOND FORM's CARD OF 'rampartlaw03.WireReplies'. -/
def wireRepliesUptoCard : Claim7 := { stood := { row := wireRepliesUptoRow, standIns := [], harness := (true, "c2329ac340fc253bfb1268f072fbd522122f8a6260a066e26f75ecaee2b007b3"), looks := false }, kinds := [], alts := [], laidByText := true, laidKinds := [.wider, .wider], laidTests := true, laidLooks := .later }
def WireRepliesUptoCardSaid : Prop := Claim7.holds Tryd.pinned (.plain (OpenSpec.upto wireRepliesSpec)) wireRepliesUptoCard

/-- THE SECOND FORM's CARD OF 'rampartlaw03.WireParses'. -/
def wireParsesUptoCard : Claim7 := { stood := { row := wireParsesUptoRow, standIns := [], harness := (true, "c2329ac340fc253bfb1268f072fbd522122f8a6260a066e26f75ecaee2b007b3"), looks := false }, kinds := [], alts := [], laidByText := true, laidKinds := [.wider, .wider], laidTests := true, laidLooks := .later }
def WireParsesUptoCardSaid : Prop := Claim7.holds Tryd.pinned (.plain (OpenSpec.upto wireParsesSpec)) wireParsesUptoCard

/-- THE SECOND FORM's CARD OF 'rampartlaw03.WireJust'. -/
def wireJustUptoCard : Claim7 := { stood := { row := wireJustUptoRow, standIns := [], harness := (true, "c2329ac340fc253bfb1268f072fbd522122f8a6260a066e26f75ecaee2b007b3"), looks := false }, kinds := [], alts := [], laidByText := true, laidKinds := [.wider, .wider], laidTests := true, laidLooks := .later }
def WireJustUptoCardSaid : Prop := Claim7.holds Tryd.pinned (.plain (OpenSpec.upto wireJustSpec)) wireJustUptoCard

/-- THE SECOND FORM's CARD OF 'rampartlaw03.WireBack'. -/
def wireBackUptoCard : Claim7 := { stood := { row := wireBackUptoRow, standIns := [], harness := (true, "c2329ac340fc253bfb1268f072fbd522122f8a6260a066e26f75ecaee2b007b3"), looks := false }, kinds := [], alts := [], laidByText := true, laidKinds := [.wider, .wider], laidTests := true, laidLooks := .later }
def WireBackUptoCardSaid : Prop := Claim7.holds Tryd.pinned (.plain (OpenSpec.upto wireBackSpec)) wireBackUptoCard
end Rows
end Go.Proofs.YtbbnaagfnpeloaaDoor
