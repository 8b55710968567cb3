/-
  DERIVED. GIVEN WITH THE SEED: THE CARDS: each row of YtiepijihpgijbaaGreatDoorRows.lean that lists a variable, with what it lists TIED to the program's text (the seventh form; the later family's looks); each row that meets fmt, with fmt's text TOLD by the authors' own Lean function (tested against real Go, not proved from fmt's source: count such statements apart). THE CARD IS WHAT COUNTS. Prove the row's statement (the work); the ties are given (YtiepijihpgijbaaGreatDoorTie.lean); close each card by the builder's one call (the guide's Derived/Test/ToyasCard.lean, 'card_holds'). Laid BY PROGRAM, IN A SANDBOX (cutbox-door.mjs). By AI agents, Wed Nov 11 2026. No macro, syntax, notation, axiom, sorry.
-/
import Derived.Test.YtiepijihpgijbaaGreatDoorRows
import GoSem.ClaimSeven
namespace Go.Proofs.YtiepijihpgijbaaGreatDoor
namespace Rows

/-- THE TIED CARD OF 'nacellelaw27.PartPicks'. -/
def partPicksCard : Claim7 := { stood := { row := partPicksRow, standIns := [], harness := (true, "5f13b43921ca91f12f11577836aec8b013d362875839c56832d8e4587fa36256"), looks := false }, kinds := [], alts := [], laidByText := true, laidKinds := [.data, .data, .data, .data, .funcs, .listed, .data, .data], laidTests := true, laidLooks := .later }
def PartPicksCardSaid : Prop := Claim7.holds Tryz.pinned (.plain (OpenSpec.ofChange partPicksSpec)) partPicksCard

/-- THE TIED CARD OF 'nacellelaw27.PartOthers'. -/
def partOthersCard : Claim7 := { stood := { row := partOthersRow, standIns := [], harness := (true, "5f13b43921ca91f12f11577836aec8b013d362875839c56832d8e4587fa36256"), looks := false }, kinds := [], alts := [], laidByText := true, laidKinds := [.data, .data, .data, .data, .funcs, .listed, .data, .data], laidTests := true, laidLooks := .later }
def PartOthersCardSaid : Prop := Claim7.holds Tryz.pinned (.plain (OpenSpec.ofChange partOthersSpec)) partOthersCard

/-- THE TIED CARD OF 'nacellelaw27.PartSame'. -/
def partSameCard : Claim7 := { stood := { row := partSameRow, standIns := [], harness := (true, "5f13b43921ca91f12f11577836aec8b013d362875839c56832d8e4587fa36256"), looks := false }, kinds := [], alts := [], laidByText := true, laidKinds := [.data, .data, .data, .data, .funcs, .listed, .data, .data], laidTests := true, laidLooks := .later }
def PartSameCardSaid : Prop := Claim7.holds Tryz.pinned (.plain (OpenSpec.ofChange partSameSpec)) partSameCard

/-- THE TIED CARD OF 'nacellelaw27.PartAnew'. -/
def partAnewCard : Claim7 := { stood := { row := partAnewRow, standIns := [], harness := (true, "5f13b43921ca91f12f11577836aec8b013d362875839c56832d8e4587fa36256"), looks := false }, kinds := [], alts := [], laidByText := true, laidKinds := [.data, .data, .data, .data, .funcs, .listed, .data, .data], laidTests := true, laidLooks := .later }
def PartAnewCardSaid : Prop := Claim7.holds Tryz.pinned (.plain (OpenSpec.ofChange partAnewSpec)) partAnewCard

/-- THE TIED CARD OF 'nacellelaw27.PartCarries'. -/
def partCarriesCard : Claim7 := { stood := { row := partCarriesRow, standIns := [], harness := (true, "5f13b43921ca91f12f11577836aec8b013d362875839c56832d8e4587fa36256"), looks := false }, kinds := [], alts := [], laidByText := true, laidKinds := [.data, .data, .data, .data, .funcs, .listed, .data, .data], laidTests := true, laidLooks := .later }
def PartCarriesCardSaid : Prop := Claim7.holds Tryz.pinned (.plain (OpenSpec.ofChange partCarriesSpec)) partCarriesCard

/-- THE SECOND FORM's CARD OF 'nacellelaw27.PartPicks'. -/
def partPicksUptoCard : Claim7 := { stood := { row := partPicksUptoRow, standIns := [], harness := (true, "5f13b43921ca91f12f11577836aec8b013d362875839c56832d8e4587fa36256"), looks := false }, kinds := [], alts := [], laidByText := true, laidKinds := [.data, .data, .data, .data, .funcs, .listed, .data, .data], laidTests := true, laidLooks := .later }
def PartPicksUptoCardSaid : Prop := Claim7.holds Tryz.pinned (.plain (OpenSpec.upto partPicksSpec)) partPicksUptoCard

/-- THE SECOND FORM's CARD OF 'nacellelaw27.PartOthers'. -/
def partOthersUptoCard : Claim7 := { stood := { row := partOthersUptoRow, standIns := [], harness := (true, "5f13b43921ca91f12f11577836aec8b013d362875839c56832d8e4587fa36256"), looks := false }, kinds := [], alts := [], laidByText := true, laidKinds := [.data, .data, .data, .data, .funcs, .listed, .data, .data], laidTests := true, laidLooks := .later }
def PartOthersUptoCardSaid : Prop := Claim7.holds Tryz.pinned (.plain (OpenSpec.upto partOthersSpec)) partOthersUptoCard

/-- THE SECOND FORM's CARD OF 'nacellelaw27.PartSame'. -/
def partSameUptoCard : Claim7 := { stood := { row := partSameUptoRow, standIns := [], harness := (true, "5f13b43921ca91f12f11577836aec8b013d362875839c56832d8e4587fa36256"), looks := false }, kinds := [], alts := [], laidByText := true, laidKinds := [.data, .data, .data, .data, .funcs, .listed, .data, .data], laidTests := true, laidLooks := .later }
def PartSameUptoCardSaid : Prop := Claim7.holds Tryz.pinned (.plain (OpenSpec.upto partSameSpec)) partSameUptoCard

/-- THE SECOND FORM's CARD OF 'nacellelaw27.PartAnew'. -/
def partAnewUptoCard : Claim7 := { stood := { row := partAnewUptoRow, standIns := [], harness := (true, "5f13b43921ca91f12f11577836aec8b013d362875839c56832d8e4587fa36256"), looks := false }, kinds := [], alts := [], laidByText := true, laidKinds := [.data, .data, .data, .data, .funcs, .listed, .data, .data], laidTests := true, laidLooks := .later }
def PartAnewUptoCardSaid : Prop := Claim7.holds Tryz.pinned (.plain (OpenSpec.upto partAnewSpec)) partAnewUptoCard

/-- THE SECOND FORM's CARD OF 'nacellelaw27.PartCarries'. -/
def partCarriesUptoCard : Claim7 := { stood := { row := partCarriesUptoRow, standIns := [], harness := (true, "5f13b43921ca91f12f11577836aec8b013d362875839c56832d8e4587fa36256"), looks := false }, kinds := [], alts := [], laidByText := true, laidKinds := [.data, .data, .data, .data, .funcs, .listed, .data, .data], laidTests := true, laidLooks := .later }
def PartCarriesUptoCardSaid : Prop := Claim7.holds Tryz.pinned (.plain (OpenSpec.upto partCarriesSpec)) partCarriesUptoCard
end Rows
end Go.Proofs.YtiepijihpgijbaaGreatDoor
