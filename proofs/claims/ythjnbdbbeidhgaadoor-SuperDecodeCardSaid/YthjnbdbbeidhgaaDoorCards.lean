/-
  DERIVED. GIVEN WITH THE SEED: THE CARDS: each row of YthjnbdbbeidhgaaDoorRows.lean that lists a variable, with what it lists TIED to the program's text (the seventh form; the later family's looks); each row that meets fmt, with fmt's text TOLD by the authors' own Lean function (tested against real Go, not proved from fmt's source: count such statements apart). THE CARD IS WHAT COUNTS. Prove the row's statement (the work); the ties are given (YthjnbdbbeidhgaaDoorTie.lean); close each card by the builder's one call (the guide's Derived/Test/ToyasCard.lean, 'card_holds'). Laid BY PROGRAM, IN A SANDBOX (cutbox-door.mjs). By AI agents, Wed Nov 11 2026. No macro, syntax, notation, axiom, sorry.
-/
import Derived.Test.YthjnbdbbeidhgaaDoorRows
import GoSem.ClaimSeven
namespace Go.Proofs.YthjnbdbbeidhgaaDoor
namespace Rows

/-- THE TIED CARD OF 'flashcachelaw10.PlanEncode'. -/
def planEncodeCard : Claim7 := { stood := { row := planEncodeRow, standIns := [], harness := (true, "23550a31b8cca55fa50f42d4849f9fe0ef7ecce1e9b09c234e2723ba7ac0a43e"), looks := false }, kinds := [], alts := [], laidByText := true, laidKinds := [.data], laidTests := true, laidLooks := .later }
def PlanEncodeCardSaid : Prop := Claim7.holds Tryd.pinned (.plain (OpenSpec.ofChange planEncodeSpec)) planEncodeCard

/-- THE TIED CARD OF 'flashcachelaw10.PlanDecode'. -/
def planDecodeCard : Claim7 := { stood := { row := planDecodeRow, standIns := [], harness := (true, "23550a31b8cca55fa50f42d4849f9fe0ef7ecce1e9b09c234e2723ba7ac0a43e"), looks := false }, kinds := [], alts := [], laidByText := true, laidKinds := [.data], laidTests := true, laidLooks := .later }
def PlanDecodeCardSaid : Prop := Claim7.holds Tryd.pinned (.plain (OpenSpec.ofChange planDecodeSpec)) planDecodeCard

/-- THE TIED CARD OF 'flashcachelaw08.SuperEncode'. -/
def superEncodeCard : Claim7 := { stood := { row := superEncodeRow, standIns := [], harness := (true, "23550a31b8cca55fa50f42d4849f9fe0ef7ecce1e9b09c234e2723ba7ac0a43e"), looks := false }, kinds := [], alts := [], laidByText := true, laidKinds := [.data], laidTests := true, laidLooks := .later }
def SuperEncodeCardSaid : Prop := Claim7.holds Tryd.pinned (.plain (OpenSpec.ofChange superEncodeSpec)) superEncodeCard

/-- THE TIED CARD OF 'flashcachelaw08.SuperDecode'. -/
def superDecodeCard : Claim7 := { stood := { row := superDecodeRow, standIns := [], harness := (true, "23550a31b8cca55fa50f42d4849f9fe0ef7ecce1e9b09c234e2723ba7ac0a43e"), looks := false }, kinds := [], alts := [], laidByText := true, laidKinds := [.data], laidTests := true, laidLooks := .later }
def SuperDecodeCardSaid : Prop := Claim7.holds Tryd.pinned (.plain (OpenSpec.ofChange superDecodeSpec)) superDecodeCard

/-- THE TIED CARD OF 'flashcachelaw08.SuperApart'. -/
def superApartCard : Claim7 := { stood := { row := superApartRow, standIns := [], harness := (true, "23550a31b8cca55fa50f42d4849f9fe0ef7ecce1e9b09c234e2723ba7ac0a43e"), looks := false }, kinds := [], alts := [], laidByText := true, laidKinds := [.data], laidTests := true, laidLooks := .later }
def SuperApartCardSaid : Prop := Claim7.holds Tryd.pinned (.plain (OpenSpec.ofChange superApartSpec)) superApartCard

/-- THE TIED CARD OF 'flashcachelaw08.SuperValid'. -/
def superValidCard : Claim7 := { stood := { row := superValidRow, standIns := [], harness := (true, "23550a31b8cca55fa50f42d4849f9fe0ef7ecce1e9b09c234e2723ba7ac0a43e"), looks := false }, kinds := [], alts := [], laidByText := true, laidKinds := [.data], laidTests := true, laidLooks := .later }
def SuperValidCardSaid : Prop := Claim7.holds Tryd.pinned (.plain (OpenSpec.ofChange superValidSpec)) superValidCard

/-- THE SECOND FORM's CARD OF 'flashcachelaw10.PlanEncode'. -/
def planEncodeUptoCard : Claim7 := { stood := { row := planEncodeUptoRow, standIns := [], harness := (true, "23550a31b8cca55fa50f42d4849f9fe0ef7ecce1e9b09c234e2723ba7ac0a43e"), looks := false }, kinds := [], alts := [], laidByText := true, laidKinds := [.data], laidTests := true, laidLooks := .later }
def PlanEncodeUptoCardSaid : Prop := Claim7.holds Tryd.pinned (.plain (OpenSpec.upto planEncodeSpec)) planEncodeUptoCard

/-- THE SECOND FORM's CARD OF 'flashcachelaw10.PlanDecode'. -/
def planDecodeUptoCard : Claim7 := { stood := { row := planDecodeUptoRow, standIns := [], harness := (true, "23550a31b8cca55fa50f42d4849f9fe0ef7ecce1e9b09c234e2723ba7ac0a43e"), looks := false }, kinds := [], alts := [], laidByText := true, laidKinds := [.data], laidTests := true, laidLooks := .later }
def PlanDecodeUptoCardSaid : Prop := Claim7.holds Tryd.pinned (.plain (OpenSpec.upto planDecodeSpec)) planDecodeUptoCard

/-- THE SECOND FORM's CARD OF 'flashcachelaw08.SuperEncode'. -/
def superEncodeUptoCard : Claim7 := { stood := { row := superEncodeUptoRow, standIns := [], harness := (true, "23550a31b8cca55fa50f42d4849f9fe0ef7ecce1e9b09c234e2723ba7ac0a43e"), looks := false }, kinds := [], alts := [], laidByText := true, laidKinds := [.data], laidTests := true, laidLooks := .later }
def SuperEncodeUptoCardSaid : Prop := Claim7.holds Tryd.pinned (.plain (OpenSpec.upto superEncodeSpec)) superEncodeUptoCard

/-- THE SECOND FORM's CARD OF 'flashcachelaw08.SuperDecode'. -/
def superDecodeUptoCard : Claim7 := { stood := { row := superDecodeUptoRow, standIns := [], harness := (true, "23550a31b8cca55fa50f42d4849f9fe0ef7ecce1e9b09c234e2723ba7ac0a43e"), looks := false }, kinds := [], alts := [], laidByText := true, laidKinds := [.data], laidTests := true, laidLooks := .later }
def SuperDecodeUptoCardSaid : Prop := Claim7.holds Tryd.pinned (.plain (OpenSpec.upto superDecodeSpec)) superDecodeUptoCard

/-- THE SECOND FORM's CARD OF 'flashcachelaw08.SuperApart'. -/
def superApartUptoCard : Claim7 := { stood := { row := superApartUptoRow, standIns := [], harness := (true, "23550a31b8cca55fa50f42d4849f9fe0ef7ecce1e9b09c234e2723ba7ac0a43e"), looks := false }, kinds := [], alts := [], laidByText := true, laidKinds := [.data], laidTests := true, laidLooks := .later }
def SuperApartUptoCardSaid : Prop := Claim7.holds Tryd.pinned (.plain (OpenSpec.upto superApartSpec)) superApartUptoCard

/-- THE SECOND FORM's CARD OF 'flashcachelaw08.SuperValid'. -/
def superValidUptoCard : Claim7 := { stood := { row := superValidUptoRow, standIns := [], harness := (true, "23550a31b8cca55fa50f42d4849f9fe0ef7ecce1e9b09c234e2723ba7ac0a43e"), looks := false }, kinds := [], alts := [], laidByText := true, laidKinds := [.data], laidTests := true, laidLooks := .later }
def SuperValidUptoCardSaid : Prop := Claim7.holds Tryd.pinned (.plain (OpenSpec.upto superValidSpec)) superValidUptoCard
end Rows
end Go.Proofs.YthjnbdbbeidhgaaDoor
