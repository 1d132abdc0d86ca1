/-
  DERIVED. GIVEN WITH THE SEED: THE CARDS: each row of YtbheflinchabgaaGreatDoorRows.lean that lists a variable, with what it lists TIED to the program's text (the seventh form; the later family's looks); each row that meets fmt, with fmt's text TOLD by the authors' own Lean function (tested against real Go, not proved from fmt's source: count such statements apart). THE CARD IS WHAT COUNTS. Prove the row's statement (the work); the ties are given (YtbheflinchabgaaGreatDoorTie.lean); close each card by the builder's one call (the guide's Derived/Test/ToyasCard.lean, 'card_holds'). Laid BY PROGRAM, IN A SANDBOX (cutbox-door.mjs). By AI agents, Wed Nov 11 2026. No macro, syntax, notation, axiom, sorry.
-/
import Derived.Test.YtbheflinchabgaaGreatDoorRows
import GoSem.ClaimSeven
namespace Go.Proofs.YtbheflinchabgaaGreatDoor
namespace Rows

/-- THE TIED CARD OF 'laws.FnClientLog'. -/
def fnClientLogCard : Claim7 := { stood := { row := fnClientLogRow, standIns := [], harness := (true, "4eeae0ad52741ebaf824fc3f3316c11cb42b6f7629ea920cc3e592d7504f2ba9"), looks := true }, kinds := [], alts := [], laidByText := true, laidKinds := [.handle, .sentinel], laidTests := true, laidLooks := .later }
def FnClientLogCardSaid : Prop := Claim7.holds Tryz.pinned (.plain (OpenSpec.ofChange fnClientLogSpec)) fnClientLogCard

/-- THE SECOND FORM's CARD OF 'laws.FnClientLog'. -/
def fnClientLogUptoCard : Claim7 := { stood := { row := fnClientLogUptoRow, standIns := [], harness := (true, "4eeae0ad52741ebaf824fc3f3316c11cb42b6f7629ea920cc3e592d7504f2ba9"), looks := true }, kinds := [], alts := [], laidByText := true, laidKinds := [.handle, .sentinel], laidTests := true, laidLooks := .later }
def FnClientLogUptoCardSaid : Prop := Claim7.holds Tryz.pinned (.plain (OpenSpec.upto fnClientLogSpec)) fnClientLogUptoCard
end Rows
end Go.Proofs.YtbheflinchabgaaGreatDoor
