/-
  DERIVED. GIVEN WITH THE SEED: THE CARDS: each row of YthgpmnblkhehkaaDoorRows.lean that lists a variable, with what it lists TIED to the program's text (the seventh form; the later family's looks); each row that meets fmt, with fmt's text TOLD by the authors' own Lean function (tested against real Go, not proved from fmt's source: count such statements apart). THE CARD IS WHAT COUNTS. Prove the row's statement (the work); the ties are given (YthgpmnblkhehkaaDoorTie.lean); close each card by the builder's one call (the guide's Derived/Test/ToyasCard.lean, 'card_holds'). Laid BY PROGRAM, IN A SANDBOX (cutbox-door.mjs). By AI agents, Wed Nov 11 2026. No macro, syntax, notation, axiom, sorry.
-/
import Derived.Test.YthgpmnblkhehkaaDoorRows
import GoSem.ClaimSeven
namespace Go.Proofs.YthgpmnblkhehkaaDoor
namespace Rows

/-- THE TIED CARD OF 'flashcachelaw14.RegionOnce'. -/
def regionOnceCard : Claim7 := { stood := { row := regionOnceRow, standIns := [], harness := (true, "6c48d39b73e98f2a25374d8d6a321451f2f39541b1c0e17f135e4cac986db1e9"), looks := false }, kinds := [], alts := [], laidByText := true, laidKinds := [.data], laidTests := true, laidLooks := .later }
def RegionOnceCardSaid : Prop := Claim7.holds Tryd.pinned (.plain (OpenSpec.ofChange regionOnceSpec)) regionOnceCard

/-- THE TIED CARD OF 'flashcachelaw14.RegionMay'. -/
def regionMayCard : Claim7 := { stood := { row := regionMayRow, standIns := [], harness := (true, "6c48d39b73e98f2a25374d8d6a321451f2f39541b1c0e17f135e4cac986db1e9"), looks := false }, kinds := [], alts := [], laidByText := true, laidKinds := [.data], laidTests := true, laidLooks := .later }
def RegionMayCardSaid : Prop := Claim7.holds Tryd.pinned (.plain (OpenSpec.ofChange regionMaySpec)) regionMayCard

/-- THE TIED CARD OF 'flashcachelaw14.RegionScript'. -/
def regionScriptCard : Claim7 := { stood := { row := regionScriptRow, standIns := [], harness := (true, "6c48d39b73e98f2a25374d8d6a321451f2f39541b1c0e17f135e4cac986db1e9"), looks := false }, kinds := [], alts := [], laidByText := true, laidKinds := [.data], laidTests := true, laidLooks := .later }
def RegionScriptCardSaid : Prop := Claim7.holds Tryd.pinned (.plain (OpenSpec.ofChange regionScriptSpec)) regionScriptCard

/-- THE SECOND FORM's CARD OF 'flashcachelaw14.RegionOnce'. -/
def regionOnceUptoCard : Claim7 := { stood := { row := regionOnceUptoRow, standIns := [], harness := (true, "6c48d39b73e98f2a25374d8d6a321451f2f39541b1c0e17f135e4cac986db1e9"), looks := false }, kinds := [], alts := [], laidByText := true, laidKinds := [.data], laidTests := true, laidLooks := .later }
def RegionOnceUptoCardSaid : Prop := Claim7.holds Tryd.pinned (.plain (OpenSpec.upto regionOnceSpec)) regionOnceUptoCard

/-- THE SECOND FORM's CARD OF 'flashcachelaw14.RegionMay'. -/
def regionMayUptoCard : Claim7 := { stood := { row := regionMayUptoRow, standIns := [], harness := (true, "6c48d39b73e98f2a25374d8d6a321451f2f39541b1c0e17f135e4cac986db1e9"), looks := false }, kinds := [], alts := [], laidByText := true, laidKinds := [.data], laidTests := true, laidLooks := .later }
def RegionMayUptoCardSaid : Prop := Claim7.holds Tryd.pinned (.plain (OpenSpec.upto regionMaySpec)) regionMayUptoCard

/-- THE SECOND FORM's CARD OF 'flashcachelaw14.RegionScript'. -/
def regionScriptUptoCard : Claim7 := { stood := { row := regionScriptUptoRow, standIns := [], harness := (true, "6c48d39b73e98f2a25374d8d6a321451f2f39541b1c0e17f135e4cac986db1e9"), looks := false }, kinds := [], alts := [], laidByText := true, laidKinds := [.data], laidTests := true, laidLooks := .later }
def RegionScriptUptoCardSaid : Prop := Claim7.holds Tryd.pinned (.plain (OpenSpec.upto regionScriptSpec)) regionScriptUptoCard
end Rows
end Go.Proofs.YthgpmnblkhehkaaDoor
