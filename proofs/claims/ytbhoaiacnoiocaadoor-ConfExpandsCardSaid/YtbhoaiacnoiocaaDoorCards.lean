/-
  DERIVED. GIVEN WITH THE SEED: THE CARDS: each row of YtbhoaiacnoiocaaDoorRows.lean that lists a variable, with what it lists TIED to the program's text (the seventh form; the later family's looks); each row that meets fmt, with fmt's text TOLD by the authors' own Lean function (tested against real Go, not proved from fmt's source: count such statements apart). THE CARD IS WHAT COUNTS. Prove the row's statement (the work); the ties are given (YtbhoaiacnoiocaaDoorTie.lean); close each card by the builder's one call (the guide's Derived/Test/ToyasCard.lean, 'card_holds'). Laid BY PROGRAM, IN A SANDBOX (cutbox-door.mjs). By AI agents, Wed Nov 11 2026. No macro, syntax, notation, axiom, sorry.
-/
import Derived.Test.YtbhoaiacnoiocaaDoorRows
import GoSem.ClaimSeven
namespace Go.Proofs.YtbhoaiacnoiocaaDoor
namespace Rows

/-- THE TIED CARD OF 'messuagelaw18.ConfLast'. -/
def confLastCard : Claim7 := { stood := { row := confLastRow, standIns := [], harness := (true, "b64cefde03b2001ab514f37f9f37b95e99cfc6f54a9b6a6b9f610226bd9dcaf7"), looks := false }, kinds := [], alts := [], laidByText := true, laidKinds := [.data, .pinned], laidTests := true, laidLooks := .later }
def ConfLastCardSaid : Prop := Claim7.holds Tryd.pinned (.plain (OpenSpec.ofChange confLastSpec)) confLastCard

/-- THE TIED CARD OF 'messuagelaw18.ConfNotes'. -/
def confNotesCard : Claim7 := { stood := { row := confNotesRow, standIns := [], harness := (true, "b64cefde03b2001ab514f37f9f37b95e99cfc6f54a9b6a6b9f610226bd9dcaf7"), looks := false }, kinds := [], alts := [], laidByText := true, laidKinds := [.data, .pinned], laidTests := true, laidLooks := .later }
def ConfNotesCardSaid : Prop := Claim7.holds Tryd.pinned (.plain (OpenSpec.ofChange confNotesSpec)) confNotesCard

/-- THE TIED CARD OF 'messuagelaw18.ConfExpands'. -/
def confExpandsCard : Claim7 := { stood := { row := confExpandsRow, standIns := [], harness := (true, "b64cefde03b2001ab514f37f9f37b95e99cfc6f54a9b6a6b9f610226bd9dcaf7"), looks := false }, kinds := [], alts := [], laidByText := true, laidKinds := [.data, .pinned], laidTests := true, laidLooks := .later }
def ConfExpandsCardSaid : Prop := Claim7.holds Tryd.pinned (.plain (OpenSpec.ofChange confExpandsSpec)) confExpandsCard

/-- THE SECOND FORM's CARD OF 'messuagelaw18.ConfLast'. -/
def confLastUptoCard : Claim7 := { stood := { row := confLastUptoRow, standIns := [], harness := (true, "b64cefde03b2001ab514f37f9f37b95e99cfc6f54a9b6a6b9f610226bd9dcaf7"), looks := false }, kinds := [], alts := [], laidByText := true, laidKinds := [.data, .pinned], laidTests := true, laidLooks := .later }
def ConfLastUptoCardSaid : Prop := Claim7.holds Tryd.pinned (.plain (OpenSpec.upto confLastSpec)) confLastUptoCard

/-- THE SECOND FORM's CARD OF 'messuagelaw18.ConfNotes'. -/
def confNotesUptoCard : Claim7 := { stood := { row := confNotesUptoRow, standIns := [], harness := (true, "b64cefde03b2001ab514f37f9f37b95e99cfc6f54a9b6a6b9f610226bd9dcaf7"), looks := false }, kinds := [], alts := [], laidByText := true, laidKinds := [.data, .pinned], laidTests := true, laidLooks := .later }
def ConfNotesUptoCardSaid : Prop := Claim7.holds Tryd.pinned (.plain (OpenSpec.upto confNotesSpec)) confNotesUptoCard

/-- THE SECOND FORM's CARD OF 'messuagelaw18.ConfExpands'. -/
def confExpandsUptoCard : Claim7 := { stood := { row := confExpandsUptoRow, standIns := [], harness := (true, "b64cefde03b2001ab514f37f9f37b95e99cfc6f54a9b6a6b9f610226bd9dcaf7"), looks := false }, kinds := [], alts := [], laidByText := true, laidKinds := [.data, .pinned], laidTests := true, laidLooks := .later }
def ConfExpandsUptoCardSaid : Prop := Claim7.holds Tryd.pinned (.plain (OpenSpec.upto confExpandsSpec)) confExpandsUptoCard
end Rows
end Go.Proofs.YtbhoaiacnoiocaaDoor
