/- What the tied condition gives: the table's cells; a world that meets it. -/
import Derived.Test.YthjnbdbbeidhgaaDoorShell
import Derived.Test.YthjnbdbbeidhgaaDoorCrcWalks
import Derived.Lib.LaidTab
import Derived.LaidMore
import Derived.OpenShut
import Derived.Stop.Joined
namespace Go.Proofs.YthjnbdbbeidhgaaDoor
open Go.ChangeShapes Go.WideShapes Go.ChangeAt Go.RowKit

/-- What the rows list. -/
def laidList {H : Type} : List (String × DataW H) := [("flashcache/crc.table", Rows.laid_flashcache_crc_table)]
theorem gTable : Tryd.prog.globalNamed "flashcache/crc.table" = some 0 := by kernel_rfl
theorem tTable : (Tryd.prog.globals[0]?).map (·.type) = some 86 := by kernel_rfl
theorem c32 : Tryd.prog.cellsOf 69 = 1 := by kernel_rfl
theorem c16 : Tryd.prog.cellsOf 86 = 16 := by kernel_rfl

theorem door_met (os : Os) (args : Array Value) : laidMetH Tryd.prog laidList ((World.doorLaid Tryd.prog 400 os).forCall (fun _ _ => 0) ⟨#[], args, []⟩).memory :=
  laidMetH_of_parts3 (fuel := 8) (laidMet_of_run' 8 (by kernel_rfl) (by kernel_rfl)) (by kernel_rfl) (by kernel_rfl)

theorem tab_of_laid {W : World} (h : laidMetH Tryd.prog laidList W) : TabAt W := by
  rw [MakeChecks.laidMetH_plain _ _ _ (by kernel_rfl)] at h
  have ht : Lib.TabIs Tryd.prog W "flashcache/crc.table" .u32 (Crc.tab.map fun n : Nat => (n : Int)) :=
    Lib.tabIs_of_head (rest := []) gTable tTable Tryd.underlying86 Tryd.underlying69 c32 c16 h
  intro i hi
  have hc := World.var?_cell gTable ht i
  rw [hc]
  simp only [List.getElem?_toArray, List.getElem?_map]
  have hl : i < Crc.tab.length := hi
  rw [List.getElem?_eq_getElem hl]
  simp [List.getD, List.getElem?_eq_getElem hl]

theorem size_of_tab {W : World} (h : TabAt W) : 0 < W.heap.size := by
  have h0 := h 0 (by decide)
  rcases Nat.lt_or_ge 0 W.heap.size with hlt | hge
  · omega
  · simp [World.cell?, Array.getElem?_eq_none hge] at h0
end Go.Proofs.YthjnbdbbeidhgaaDoor
