/- The walks of the laws FrameEncode, FrameDecode, FrameOther, and of Awake. -/
import Derived.Test.YthjnbdbbeidhgaaDoorFrameWalk
import Derived.Lib.SlBytesConst
namespace Go.Proofs.YthjnbdbbeidhgaaDoor
open Go.RowKit

/-- A block of three ints. -/
def Box3 (w : World) (g : Nat) (a b c : Int) : Prop := w.cell? ⟨g, 0, none⟩ = some (.int .i64 a) ∧ w.cell? ⟨g, 1, none⟩ = some (.int .i64 b) ∧ w.cell? ⟨g, 2, none⟩ = some (.int .i64 c)
theorem Box3.below {w w' : World} {g B : Nat} {a b c : Int} (h : Box3 w g a b c) (hb : Below B w w') (hg : g < B) : Box3 w' g a b c :=
  ⟨(hb.cell (by exact hg)).trans h.1, (hb.cell (by exact hg)).trans h.2.1, (hb.cell (by exact hg)).trans h.2.2⟩
theorem Box3.new (w : World) (e : TypeId) (a b c : Int) : Box3 (w.alloc (.cells #[.int .i64 a, .int .i64 b, .int .i64 c] e)) w.heap.size a b c :=
  ⟨cell_of_row _ _ _ _ _ _ (heap_alloc_new w _), cell_of_row _ _ _ _ _ _ (heap_alloc_new w _), cell_of_row _ _ _ _ _ _ (heap_alloc_new w _)⟩
theorem Box3.drewN {w : World} {g : Nat} {a b c : Int} (h : Box3 w g a b c) (k : Nat) : Box3 (w.drewN k) g a b c := h

theorem ofDrewN {B : Nat} {w w' : World} (h : Below B w w') (k : Nat) : Below B w (w'.drewN k) := ⟨h.os, h.tape, h.output, h.size, h.block⟩



end Go.Proofs.YthjnbdbbeidhgaaDoor
