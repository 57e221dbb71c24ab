/-
  DERIVED. GIVEN WITH THE SEED: THE CARDS: each row of YtjaapemopbbfaaaGreatDoorRows.lean that lists a variable, with what it lists TIED to the program's text (the seventh form; the later family's looks); each row that meets fmt, with fmt's text TOLD by the authors' own Lean function (tested against real Go, not proved from fmt's source: count such statements apart). THE CARD IS WHAT COUNTS. Prove the row's statement (the work); the ties are given (YtjaapemopbbfaaaGreatDoorTie.lean); close each card by the builder's one call (the guide's Derived/Test/ToyasCard.lean, 'card_holds'). Laid BY PROGRAM, IN A SANDBOX (cutbox-door.mjs). By AI agents, Wed Nov 11 2026. No macro, syntax, notation, axiom, sorry.
-/
import Derived.Test.YtjaapemopbbfaaaGreatDoorRows
import GoSem.ClaimSeven
namespace Go.Proofs.YtjaapemopbbfaaaGreatDoor
namespace Rows

/-- THE TIED CARD OF 'laws.FnExactParsePoint'. -/
def fnExactParsePointCard : Claim7 := { stood := { row := fnExactParsePointRow, standIns := [], harness := (true, "29bf7947a02e058ea0e6817721110676b274941086b4d845dbc617ac8f258d8a"), looks := true }, kinds := [], alts := [], laidByText := true, laidKinds := [.data, .data, .data], laidTests := true, laidLooks := .later }
def FnExactParsePointCardSaid : Prop := Claim7.holds Tryz.pinned (.plain (OpenSpec.ofChange fnExactParsePointSpec)) fnExactParsePointCard

/-- THE TIED CARD OF 'laws.FnPoints'. -/
def fnPointsCard : Claim7 := { stood := { row := fnPointsRow, standIns := [], harness := (true, "29bf7947a02e058ea0e6817721110676b274941086b4d845dbc617ac8f258d8a"), looks := true }, kinds := [], alts := [], laidByText := true, laidKinds := [.data, .data, .data], laidTests := true, laidLooks := .later }
def FnPointsCardSaid : Prop := Claim7.holds Tryz.pinned (.plain (OpenSpec.ofChange fnPointsSpec)) fnPointsCard

/-- THE TIED CARD OF 'laws.FnMeshes'. -/
def fnMeshesCard : Claim7 := { stood := { row := fnMeshesRow, standIns := [], harness := (true, "29bf7947a02e058ea0e6817721110676b274941086b4d845dbc617ac8f258d8a"), looks := true }, kinds := [], alts := [], laidByText := true, laidKinds := [.data, .data, .data, .data, .sentinel, .sentinel, .pinned], laidTests := true, laidLooks := .later }
def FnMeshesCardSaid : Prop := Claim7.holds Tryz.pinned (.plain (OpenSpec.ofChange fnMeshesSpec)) fnMeshesCard

/-- THE SECOND FORM's CARD OF 'laws.FnExactParsePoint'. -/
def fnExactParsePointUptoCard : Claim7 := { stood := { row := fnExactParsePointUptoRow, standIns := [], harness := (true, "29bf7947a02e058ea0e6817721110676b274941086b4d845dbc617ac8f258d8a"), looks := true }, kinds := [], alts := [], laidByText := true, laidKinds := [.data, .data, .data], laidTests := true, laidLooks := .later }
def FnExactParsePointUptoCardSaid : Prop := Claim7.holds Tryz.pinned (.plain (OpenSpec.upto fnExactParsePointSpec)) fnExactParsePointUptoCard

/-- THE SECOND FORM's CARD OF 'laws.FnPoints'. -/
def fnPointsUptoCard : Claim7 := { stood := { row := fnPointsUptoRow, standIns := [], harness := (true, "29bf7947a02e058ea0e6817721110676b274941086b4d845dbc617ac8f258d8a"), looks := true }, kinds := [], alts := [], laidByText := true, laidKinds := [.data, .data, .data], laidTests := true, laidLooks := .later }
def FnPointsUptoCardSaid : Prop := Claim7.holds Tryz.pinned (.plain (OpenSpec.upto fnPointsSpec)) fnPointsUptoCard

/-- THE SECOND FORM's CARD OF 'laws.FnMeshes'. -/
def fnMeshesUptoCard : Claim7 := { stood := { row := fnMeshesUptoRow, standIns := [], harness := (true, "29bf7947a02e058ea0e6817721110676b274941086b4d845dbc617ac8f258d8a"), looks := true }, kinds := [], alts := [], laidByText := true, laidKinds := [.data, .data, .data, .data, .sentinel, .sentinel, .pinned], laidTests := true, laidLooks := .later }
def FnMeshesUptoCardSaid : Prop := Claim7.holds Tryz.pinned (.plain (OpenSpec.upto fnMeshesSpec)) fnMeshesUptoCard
end Rows
end Go.Proofs.YtjaapemopbbfaaaGreatDoor
