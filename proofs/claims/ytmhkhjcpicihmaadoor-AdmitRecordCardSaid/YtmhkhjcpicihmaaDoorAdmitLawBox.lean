/- A block of a request. -/
import Derived.Test.YtmhkhjcpicihmaaDoorAdmitCheck
namespace Go.Proofs.YtmhkhjcpicihmaaDoor
open Go.RowKit

/-- A block of a request. -/
def BoxQ (w : World) (g : Nat) (a b c d now ttl : Int) (Ak : Option Addr) (nk ck : Nat) (Av : Option Addr) (nv cv : Nat) : Prop := w.cell? ⟨g, 0, none⟩ = some (.int .i64 a) ∧ w.cell? ⟨g, 1, none⟩ = some (.int .i64 b) ∧ w.cell? ⟨g, 2, none⟩ = some (.int .i64 c) ∧ w.cell? ⟨g, 3, none⟩ = some (.int .i64 d) ∧ w.cell? ⟨g, 4, none⟩ = some (.int .i64 now) ∧ w.cell? ⟨g, 5, none⟩ = some (.int .i64 ttl) ∧ w.cell? ⟨g, 6, none⟩ = some (.slice Ak nk ck) ∧ w.cell? ⟨g, 7, none⟩ = some (.slice Av nv cv)
theorem BoxQ.below {w w' : World} {g B : Nat} {a b c d now ttl : Int} {Ak Av : Option Addr} {nk ck nv cv : Nat} (h : BoxQ w g a b c d now ttl Ak nk ck Av nv cv) (hb : Below B w w') (hg : g < B) : BoxQ w' g a b c d now ttl Ak nk ck Av nv cv :=
  ⟨(hb.cell (by exact hg)).trans h.1, (hb.cell (by exact hg)).trans h.2.1, (hb.cell (by exact hg)).trans h.2.2.1, (hb.cell (by exact hg)).trans h.2.2.2.1, (hb.cell (by exact hg)).trans h.2.2.2.2.1, (hb.cell (by exact hg)).trans h.2.2.2.2.2.1, (hb.cell (by exact hg)).trans h.2.2.2.2.2.2.1, (hb.cell (by exact hg)).trans h.2.2.2.2.2.2.2⟩
theorem BoxQ.new (w : World) (ty : TypeId) (a b c d now ttl : Int) (Ak Av : Option Addr) (nk ck nv cv : Nat) : BoxQ (w.alloc (.cells #[.int .i64 a, .int .i64 b, .int .i64 c, .int .i64 d, .int .i64 now, .int .i64 ttl, .slice Ak nk ck, .slice Av nv cv] ty)) w.heap.size a b c d now ttl Ak nk ck Av nv cv :=
  ⟨cell_of_row _ _ _ _ _ _ (heap_alloc_new w _), cell_of_row _ _ _ _ _ _ (heap_alloc_new w _), cell_of_row _ _ _ _ _ _ (heap_alloc_new w _), cell_of_row _ _ _ _ _ _ (heap_alloc_new w _), cell_of_row _ _ _ _ _ _ (heap_alloc_new w _), cell_of_row _ _ _ _ _ _ (heap_alloc_new w _), cell_of_row _ _ _ _ _ _ (heap_alloc_new w _), cell_of_row _ _ _ _ _ _ (heap_alloc_new w _)⟩
end Go.Proofs.YtmhkhjcpicihmaaDoor
