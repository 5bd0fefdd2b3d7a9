/- What a region holds; a block of a layout. -/
import Derived.Test.YthgpmnblkhehkaaDoorFormRef
import Derived.Deep.RegionWith
namespace Go.Proofs.YthgpmnblkhehkaaDoor
open Go.RowKit

/-- What a region holds. -/
def capS (a b c d : Int) : Int := if form a b c d = true then (c - 1) * 59 else 0
set_option maxHeartbeats 400000 in
theorem capacity_any (a b c d : Int) (ha : I64 a) (hb : I64 b) (hc : I64 c) (hd : I64 d) (r : Int) (hr : capS a b c d = r) (w : World) :
    Calls Tryd.prog 62 #[.agg #[.int .i64 a, .int .i64 b, .int .i64 c, .int .i64 d]] w fun e w' => e = .returned (.int .i64 r) ∧ Below w.heap.size w w' := by
  have C := Lib.hid (form_any a b c d ha hb hc hd)
  cases hf : form a b c d
  · obtain rfl : r = 0 := by rw [← hr, capS, if_neg (by rw [hf]; decide)]
    rw [hf] at C
    clear hf hr
    unfold I64 at *
    go_enter Tryd.func62, Tryd.ntmps62
    go_wp2_with (go_at_call 29; refine (C.out _).mono ?_; rintro e w1 ⟨rfl, hb1⟩; obtain ⟨hcc, hcf⟩ := below_cells hb1)
    go_ret
    exact ⟨rfl, ((Below.refl _ _).alloc (Nat.le_refl _) _).trans (hb1.mono (by simp))⟩
  · obtain rfl : r = (c - 1) * 59 := by rw [← hr, capS, if_pos hf]
    obtain ⟨_, _, _, h1, h2, _⟩ := form_true hf
    rw [hf] at C
    clear hf hr
    unfold I64 at *
    go_enter Tryd.func62, Tryd.ntmps62
    go_wp2_with (go_at_call 29; refine (C.out _).mono ?_; rintro e w1 ⟨rfl, hb1⟩; obtain ⟨hcc, hcf⟩ := below_cells hb1)
    go_ret
    exact ⟨rfl, ((Below.refl _ _).alloc (Nat.le_refl _) _).trans (hb1.mono (by simp))⟩

set_option maxHeartbeats 400000 in
theorem refCapacity_any (a b c d : Int) (h1 : 2 ≤ c) (h2 : c ≤ 2048) (w : World) :
    Calls Tryd.prog 14 #[.agg #[.int .i64 a, .int .i64 b, .int .i64 c, .int .i64 d]] w fun e w' => e = .returned (.int .i64 ((c - 1) * 59)) ∧ Below w.heap.size w w' := by
  go_enter Tryd.func14, Tryd.ntmps14
  go_wp2
  go_ret
  exact ⟨rfl, (Below.refl _ _).alloc (Nat.le_refl _) _⟩

/-- A block of a layout. -/
def BoxL (w : World) (g : Nat) (a b c d : Int) : Prop := w.cell? ⟨g, 0, none⟩ = some (.int .i64 a) ∧ w.cell? ⟨g, 1, none⟩ = some (.int .i64 b) ∧ w.cell? ⟨g, 2, none⟩ = some (.int .i64 c) ∧ w.cell? ⟨g, 3, none⟩ = some (.int .i64 d)
theorem BoxL.below {w w' : World} {g B : Nat} {a b c d : Int} (h : BoxL w g a b c d) (hb : Below B w w') (hg : g < B) : BoxL w' g a b c d :=
  ⟨(hb.cell (by exact hg)).trans h.1, (hb.cell (by exact hg)).trans h.2.1, (hb.cell (by exact hg)).trans h.2.2.1, (hb.cell (by exact hg)).trans h.2.2.2⟩
theorem BoxL.new (w : World) (ty : TypeId) (a b c d : Int) : BoxL (w.alloc (.cells #[.int .i64 a, .int .i64 b, .int .i64 c, .int .i64 d] ty)) w.heap.size a b c d :=
  ⟨cell_of_row _ _ _ _ _ _ (heap_alloc_new w _), cell_of_row _ _ _ _ _ _ (heap_alloc_new w _), cell_of_row _ _ _ _ _ _ (heap_alloc_new w _), cell_of_row _ _ _ _ _ _ (heap_alloc_new w _)⟩
theorem BoxL.drew {w : World} {g : Nat} {a b c d : Int} (h : BoxL w g a b c d) : BoxL w.drew g a b c d := h

theorem capS_in {a b c d : Int} (h : form a b c d = true) : capS a b c d = (c - 1) * 59 ∧ 59 ≤ capS a b c d ∧ capS a b c d ≤ 120773 ∧ 2 ≤ c ∧ c ≤ 2048 ∧ (b = 1 ∨ b = 2) := by
  obtain ⟨_, _, h0, h1, h2, _⟩ := form_true h
  rw [capS, if_pos h]
  refine ⟨rfl, by omega, by omega, h1, h2, h0⟩

end Go.Proofs.YthgpmnblkhehkaaDoor
