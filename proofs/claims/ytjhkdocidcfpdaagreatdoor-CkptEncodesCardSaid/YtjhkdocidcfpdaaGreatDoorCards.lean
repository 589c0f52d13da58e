/-
  DERIVED. GIVEN WITH THE SEED: THE CARDS: each row of YtjhkdocidcfpdaaGreatDoorRows.lean that lists a variable, with what it lists TIED to the program's text (the seventh form; the later family's looks); each row that meets fmt, with fmt's text TOLD by the authors' own Lean function (tested against real Go, not proved from fmt's source: count such statements apart). THE CARD IS WHAT COUNTS. Prove the row's statement (the work); the ties are given (YtjhkdocidcfpdaaGreatDoorTie.lean); close each card by the builder's one call (the guide's Derived/Test/ToyasCard.lean, 'card_holds'). Laid BY PROGRAM, IN A SANDBOX (cutbox-door.mjs). By AI agents, Wed Nov 11 2026. No macro, syntax, notation, axiom, sorry.
-/
import Derived.Test.YtjhkdocidcfpdaaGreatDoorRows
import GoSem.ClaimSeven
namespace Go.Proofs.YtjhkdocidcfpdaaGreatDoor
namespace Rows

/-- THE TIED CARD OF 'ratchetlaw33.CkptDecodes'. -/
def ckptDecodesCard : Claim7 := { stood := { row := ckptDecodesRow, standIns := [], harness := (true, "9a54c2461138d2decdad1f2ecb27eb5d753cef3c524d7f1c0a2ea24f2b5c7185"), looks := true }, kinds := [], alts := [], laidByText := true, laidKinds := [.data, .data, .data], laidTests := true, laidLooks := .later }
def CkptDecodesCardSaid : Prop := Claim7.holds Tryz.pinned (.plain (OpenSpec.ofChange ckptDecodesSpec)) ckptDecodesCard

/-- THE TIED CARD OF 'ratchetlaw33.CkptTurns'. -/
def ckptTurnsCard : Claim7 := { stood := { row := ckptTurnsRow, standIns := [], harness := (true, "9a54c2461138d2decdad1f2ecb27eb5d753cef3c524d7f1c0a2ea24f2b5c7185"), looks := true }, kinds := [], alts := [], laidByText := true, laidKinds := [.data, .data, .data], laidTests := true, laidLooks := .later }
def CkptTurnsCardSaid : Prop := Claim7.holds Tryz.pinned (.plain (OpenSpec.ofChange ckptTurnsSpec)) ckptTurnsCard

/-- THE TIED CARD OF 'ratchetlaw33.CkptEncodes'. -/
def ckptEncodesCard : Claim7 := { stood := { row := ckptEncodesRow, standIns := [], harness := (true, "9a54c2461138d2decdad1f2ecb27eb5d753cef3c524d7f1c0a2ea24f2b5c7185"), looks := true }, kinds := [], alts := [], laidByText := true, laidKinds := [.data, .data, .data], laidTests := true, laidLooks := .later }
def CkptEncodesCardSaid : Prop := Claim7.holds Tryz.pinned (.plain (OpenSpec.ofChange ckptEncodesSpec)) ckptEncodesCard

/-- THE SECOND FORM's CARD OF 'ratchetlaw33.CkptDecodes'. -/
def ckptDecodesUptoCard : Claim7 := { stood := { row := ckptDecodesUptoRow, standIns := [], harness := (true, "9a54c2461138d2decdad1f2ecb27eb5d753cef3c524d7f1c0a2ea24f2b5c7185"), looks := true }, kinds := [], alts := [], laidByText := true, laidKinds := [.data, .data, .data], laidTests := true, laidLooks := .later }
def CkptDecodesUptoCardSaid : Prop := Claim7.holds Tryz.pinned (.plain (OpenSpec.upto ckptDecodesSpec)) ckptDecodesUptoCard

/-- THE SECOND FORM's CARD OF 'ratchetlaw33.CkptTurns'. -/
def ckptTurnsUptoCard : Claim7 := { stood := { row := ckptTurnsUptoRow, standIns := [], harness := (true, "9a54c2461138d2decdad1f2ecb27eb5d753cef3c524d7f1c0a2ea24f2b5c7185"), looks := true }, kinds := [], alts := [], laidByText := true, laidKinds := [.data, .data, .data], laidTests := true, laidLooks := .later }
def CkptTurnsUptoCardSaid : Prop := Claim7.holds Tryz.pinned (.plain (OpenSpec.upto ckptTurnsSpec)) ckptTurnsUptoCard

/-- THE SECOND FORM's CARD OF 'ratchetlaw33.CkptEncodes'. -/
def ckptEncodesUptoCard : Claim7 := { stood := { row := ckptEncodesUptoRow, standIns := [], harness := (true, "9a54c2461138d2decdad1f2ecb27eb5d753cef3c524d7f1c0a2ea24f2b5c7185"), looks := true }, kinds := [], alts := [], laidByText := true, laidKinds := [.data, .data, .data], laidTests := true, laidLooks := .later }
def CkptEncodesUptoCardSaid : Prop := Claim7.holds Tryz.pinned (.plain (OpenSpec.upto ckptEncodesSpec)) ckptEncodesUptoCard
end Rows
end Go.Proofs.YtjhkdocidcfpdaaGreatDoor
