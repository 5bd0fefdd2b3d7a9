/- The walk of the law AdmitCheck. -/
import Derived.Test.YtepbchaeeldjmaaAdmitAwake
namespace Go.Proofs.Ytepbchaeeldjmaa
open Go.RowKit

/-- A block of a request. -/
def BoxQ (w : World) (g : Nat) (a b c d now ttl : Int) (Ak : Option Addr) (nk ck : Nat) (Av : Option Addr) (nv cv : Nat) : Prop := w.cell? ⟨g, 0, none⟩ = some (.int .i64 a) ∧ w.cell? ⟨g, 1, none⟩ = some (.int .i64 b) ∧ w.cell? ⟨g, 2, none⟩ = some (.int .i64 c) ∧ w.cell? ⟨g, 3, none⟩ = some (.int .i64 d) ∧ w.cell? ⟨g, 4, none⟩ = some (.int .i64 now) ∧ w.cell? ⟨g, 5, none⟩ = some (.int .i64 ttl) ∧ w.cell? ⟨g, 6, none⟩ = some (.slice Ak nk ck) ∧ w.cell? ⟨g, 7, none⟩ = some (.slice Av nv cv)
theorem BoxQ.below {w w' : World} {g B : Nat} {a b c d now ttl : Int} {Ak Av : Option Addr} {nk ck nv cv : Nat} (h : BoxQ w g a b c d now ttl Ak nk ck Av nv cv) (hb : Below B w w') (hg : g < B) : BoxQ w' g a b c d now ttl Ak nk ck Av nv cv :=
  ⟨(hb.cell (by exact hg)).trans h.1, (hb.cell (by exact hg)).trans h.2.1, (hb.cell (by exact hg)).trans h.2.2.1, (hb.cell (by exact hg)).trans h.2.2.2.1, (hb.cell (by exact hg)).trans h.2.2.2.2.1, (hb.cell (by exact hg)).trans h.2.2.2.2.2.1, (hb.cell (by exact hg)).trans h.2.2.2.2.2.2.1, (hb.cell (by exact hg)).trans h.2.2.2.2.2.2.2⟩
theorem BoxQ.new (w : World) (ty : TypeId) (a b c d now ttl : Int) (Ak Av : Option Addr) (nk ck nv cv : Nat) : BoxQ (w.alloc (.cells #[.int .i64 a, .int .i64 b, .int .i64 c, .int .i64 d, .int .i64 now, .int .i64 ttl, .slice Ak nk ck, .slice Av nv cv] ty)) w.heap.size a b c d now ttl Ak nk ck Av nv cv :=
  ⟨cell_of_row _ _ _ _ _ _ (heap_alloc_new w _), cell_of_row _ _ _ _ _ _ (heap_alloc_new w _), cell_of_row _ _ _ _ _ _ (heap_alloc_new w _), cell_of_row _ _ _ _ _ _ (heap_alloc_new w _), cell_of_row _ _ _ _ _ _ (heap_alloc_new w _), cell_of_row _ _ _ _ _ _ (heap_alloc_new w _), cell_of_row _ _ _ _ _ _ (heap_alloc_new w _), cell_of_row _ _ _ _ _ _ (heap_alloc_new w _)⟩

set_option maxHeartbeats 8000000 in
theorem admitCheck_any (a b c d now ttl : Int) (Ak Av : Option Addr) (nk ck nv cv : Nat) (ha : I64 a) (hb : I64 b) (hc : I64 c) (hd : I64 d) (hnow : I64 now) (httl : I64 ttl) (hk : nk ≤ ck) (hv : nv ≤ cv) (hck : ck ≤ 9223372036854775807) (hcv : cv ≤ 9223372036854775807) (w : World) :
    Calls Try.prog 3 #[.agg #[.int .i64 a, .int .i64 b, .int .i64 c, .int .i64 d, .int .i64 now, .int .i64 ttl, .slice Ak nk ck, .slice Av nv cv]] w fun e w' => e = .returned (.bool true) ∧ Below w.heap.size w w' := by
  by_cases h1 : nk ≤ 260
  all_goals by_cases h2 : nv ≤ 66000
  · obtain ⟨r, hr⟩ : ∃ r, checkS (form a b c d) (mostS b) (capS a b c d) now ttl nk nv = r := ⟨_, rfl⟩
    have C1 := Lib.hid (check_any a b c d now ttl Ak Av nk ck nv cv ha hb hc hd hnow httl (by omega) (by omega) r hr)
    have C2 := Lib.hid (refCheck_any a b c d now ttl Ak Av nk ck nv cv ha hb hc hd hnow httl (by omega) (by omega) r hr)
    have h1' : (nk : Int) ≤ 260 := by omega
    have h2' : (nv : Int) ≤ 66000 := by omega
    have h3' : (nk : Int) ≤ (ck : Int) := by omega
    have h4' : (nv : Int) ≤ (cv : Int) := by omega
    have HB0 : Hid (Below w.heap.size w (w.alloc (.cells #[.int .i64 a, .int .i64 b, .int .i64 c, .int .i64 d, .int .i64 now, .int .i64 ttl, .slice Ak nk ck, .slice Av nv cv] 26)).drew) := Below.drew ((Below.refl _ _).alloc (Nat.le_refl _) _)
    have HX0 : Hid (BoxQ (w.alloc (.cells #[.int .i64 a, .int .i64 b, .int .i64 c, .int .i64 d, .int .i64 now, .int .i64 ttl, .slice Ak nk ck, .slice Av nv cv] 26)).drew w.heap.size a b c d now ttl Ak nk ck Av nv cv) := BoxQ.new w 26 a b c d now ttl Ak Av nk ck nv cv
    clear hr ha hb hc hd hnow httl
    obtain ⟨x, y⟩ := r
    go_enter Try.func3, Try.ntmps3
    go_wp2_with fail
    go_region
    all_goals
      go_wp2_with fail
      refine (C1.out _).mono ?_
      rintro e w1 ⟨rfl, hbel⟩
      have HB1 : Hid (Below w.heap.size w w1) := HB0.out.trans (hbel.mono HB0.out.size)
      have HX1 : Hid (BoxQ w1 w.heap.size a b c d now ttl Ak nk ck Av nv cv) := HX0.out.below (B := w.heap.size + 1) (hbel.mono (by simp)) (by omega)
      have hw1 : w.heap.size < w1.heap.size := by have := hbel.size; simp at this; omega
      obtain ⟨l0, l1, l2, l3, l4, l5, l6, l7⟩ := HX1.out
      clear hbel
      go_wp2_with fail
      refine (C2.out _).mono ?_
      rintro e w2 ⟨rfl, hbel⟩
      have HB2 : Hid (Below w.heap.size w w2) := HB1.out.trans (hbel.mono HB1.out.size)
      clear hbel l0 l1 l2 l3 l4 l5 l6 l7
      go_wp2_with fail
      refine (admitAwake_any _).mono ?_
      rintro e w3 ⟨rfl, hbel⟩
      have HB3 : Hid (Below w.heap.size w w3) := HB2.out.trans (hbel.mono HB2.out.size)
      clear hbel
      go_wp2
      go_ret
      exact ⟨by first | rfl | simp, HB3.out⟩
  · obtain ⟨r, hr⟩ : ∃ r, checkS (form a b c d) (mostS b) (capS a b c d) now ttl nk 66000 = r := ⟨_, rfl⟩
    have C1 := Lib.hid (check_any a b c d now ttl Ak Av nk ck 66000 cv ha hb hc hd hnow httl (by omega) (by omega) r hr)
    have C2 := Lib.hid (refCheck_any a b c d now ttl Ak Av nk ck 66000 cv ha hb hc hd hnow httl (by omega) (by omega) r hr)
    have h1' : (nk : Int) ≤ 260 := by omega
    have h2' : (66000 : Int) < (nv : Int) := by omega
    have h3' : (nk : Int) ≤ (ck : Int) := by omega
    have h4' : (66000 : Int) ≤ (cv : Int) := by omega
    have HB0 : Hid (Below w.heap.size w (w.alloc (.cells #[.int .i64 a, .int .i64 b, .int .i64 c, .int .i64 d, .int .i64 now, .int .i64 ttl, .slice Ak nk ck, .slice Av 66000 cv] 26)).drew) := Below.drew ((Below.refl _ _).alloc (Nat.le_refl _) _)
    have HX0 : Hid (BoxQ (w.alloc (.cells #[.int .i64 a, .int .i64 b, .int .i64 c, .int .i64 d, .int .i64 now, .int .i64 ttl, .slice Ak nk ck, .slice Av 66000 cv] 26)).drew w.heap.size a b c d now ttl Ak nk ck Av 66000 cv) := BoxQ.new w 26 a b c d now ttl Ak Av nk ck 66000 cv
    clear hr ha hb hc hd hnow httl
    obtain ⟨x, y⟩ := r
    go_enter Try.func3, Try.ntmps3
    go_wp2_with fail
    go_region
    all_goals
      go_wp2_with fail
      refine (C1.out _).mono ?_
      rintro e w1 ⟨rfl, hbel⟩
      have HB1 : Hid (Below w.heap.size w w1) := HB0.out.trans (hbel.mono HB0.out.size)
      have HX1 : Hid (BoxQ w1 w.heap.size a b c d now ttl Ak nk ck Av 66000 cv) := HX0.out.below (B := w.heap.size + 1) (hbel.mono (by simp)) (by omega)
      have hw1 : w.heap.size < w1.heap.size := by have := hbel.size; simp at this; omega
      obtain ⟨l0, l1, l2, l3, l4, l5, l6, l7⟩ := HX1.out
      clear hbel
      go_wp2_with fail
      refine (C2.out _).mono ?_
      rintro e w2 ⟨rfl, hbel⟩
      have HB2 : Hid (Below w.heap.size w w2) := HB1.out.trans (hbel.mono HB1.out.size)
      clear hbel l0 l1 l2 l3 l4 l5 l6 l7
      go_wp2_with fail
      refine (admitAwake_any _).mono ?_
      rintro e w3 ⟨rfl, hbel⟩
      have HB3 : Hid (Below w.heap.size w w3) := HB2.out.trans (hbel.mono HB2.out.size)
      clear hbel
      go_wp2
      go_ret
      exact ⟨by first | rfl | simp, HB3.out⟩
  · obtain ⟨r, hr⟩ : ∃ r, checkS (form a b c d) (mostS b) (capS a b c d) now ttl 260 nv = r := ⟨_, rfl⟩
    have C1 := Lib.hid (check_any a b c d now ttl Ak Av 260 ck nv cv ha hb hc hd hnow httl (by omega) (by omega) r hr)
    have C2 := Lib.hid (refCheck_any a b c d now ttl Ak Av 260 ck nv cv ha hb hc hd hnow httl (by omega) (by omega) r hr)
    have h1' : (260 : Int) < (nk : Int) := by omega
    have h2' : (nv : Int) ≤ 66000 := by omega
    have h3' : (260 : Int) ≤ (ck : Int) := by omega
    have h4' : (nv : Int) ≤ (cv : Int) := by omega
    have HB0 : Hid (Below w.heap.size w (w.alloc (.cells #[.int .i64 a, .int .i64 b, .int .i64 c, .int .i64 d, .int .i64 now, .int .i64 ttl, .slice Ak 260 ck, .slice Av nv cv] 26)).drew) := Below.drew ((Below.refl _ _).alloc (Nat.le_refl _) _)
    have HX0 : Hid (BoxQ (w.alloc (.cells #[.int .i64 a, .int .i64 b, .int .i64 c, .int .i64 d, .int .i64 now, .int .i64 ttl, .slice Ak 260 ck, .slice Av nv cv] 26)).drew w.heap.size a b c d now ttl Ak 260 ck Av nv cv) := BoxQ.new w 26 a b c d now ttl Ak Av 260 ck nv cv
    clear hr ha hb hc hd hnow httl
    obtain ⟨x, y⟩ := r
    go_enter Try.func3, Try.ntmps3
    go_wp2_with fail
    go_region
    all_goals
      go_wp2_with fail
      refine (C1.out _).mono ?_
      rintro e w1 ⟨rfl, hbel⟩
      have HB1 : Hid (Below w.heap.size w w1) := HB0.out.trans (hbel.mono HB0.out.size)
      have HX1 : Hid (BoxQ w1 w.heap.size a b c d now ttl Ak 260 ck Av nv cv) := HX0.out.below (B := w.heap.size + 1) (hbel.mono (by simp)) (by omega)
      have hw1 : w.heap.size < w1.heap.size := by have := hbel.size; simp at this; omega
      obtain ⟨l0, l1, l2, l3, l4, l5, l6, l7⟩ := HX1.out
      clear hbel
      go_wp2_with fail
      refine (C2.out _).mono ?_
      rintro e w2 ⟨rfl, hbel⟩
      have HB2 : Hid (Below w.heap.size w w2) := HB1.out.trans (hbel.mono HB1.out.size)
      clear hbel l0 l1 l2 l3 l4 l5 l6 l7
      go_wp2_with fail
      refine (admitAwake_any _).mono ?_
      rintro e w3 ⟨rfl, hbel⟩
      have HB3 : Hid (Below w.heap.size w w3) := HB2.out.trans (hbel.mono HB2.out.size)
      clear hbel
      go_wp2
      go_ret
      exact ⟨by first | rfl | simp, HB3.out⟩
  · obtain ⟨r, hr⟩ : ∃ r, checkS (form a b c d) (mostS b) (capS a b c d) now ttl 260 66000 = r := ⟨_, rfl⟩
    have C1 := Lib.hid (check_any a b c d now ttl Ak Av 260 ck 66000 cv ha hb hc hd hnow httl (by omega) (by omega) r hr)
    have C2 := Lib.hid (refCheck_any a b c d now ttl Ak Av 260 ck 66000 cv ha hb hc hd hnow httl (by omega) (by omega) r hr)
    have h1' : (260 : Int) < (nk : Int) := by omega
    have h2' : (66000 : Int) < (nv : Int) := by omega
    have h3' : (260 : Int) ≤ (ck : Int) := by omega
    have h4' : (66000 : Int) ≤ (cv : Int) := by omega
    have HB0 : Hid (Below w.heap.size w (w.alloc (.cells #[.int .i64 a, .int .i64 b, .int .i64 c, .int .i64 d, .int .i64 now, .int .i64 ttl, .slice Ak 260 ck, .slice Av 66000 cv] 26)).drew) := Below.drew ((Below.refl _ _).alloc (Nat.le_refl _) _)
    have HX0 : Hid (BoxQ (w.alloc (.cells #[.int .i64 a, .int .i64 b, .int .i64 c, .int .i64 d, .int .i64 now, .int .i64 ttl, .slice Ak 260 ck, .slice Av 66000 cv] 26)).drew w.heap.size a b c d now ttl Ak 260 ck Av 66000 cv) := BoxQ.new w 26 a b c d now ttl Ak Av 260 ck 66000 cv
    clear hr ha hb hc hd hnow httl
    obtain ⟨x, y⟩ := r
    go_enter Try.func3, Try.ntmps3
    go_wp2_with fail
    go_region
    all_goals
      go_wp2_with fail
      refine (C1.out _).mono ?_
      rintro e w1 ⟨rfl, hbel⟩
      have HB1 : Hid (Below w.heap.size w w1) := HB0.out.trans (hbel.mono HB0.out.size)
      have HX1 : Hid (BoxQ w1 w.heap.size a b c d now ttl Ak 260 ck Av 66000 cv) := HX0.out.below (B := w.heap.size + 1) (hbel.mono (by simp)) (by omega)
      have hw1 : w.heap.size < w1.heap.size := by have := hbel.size; simp at this; omega
      obtain ⟨l0, l1, l2, l3, l4, l5, l6, l7⟩ := HX1.out
      clear hbel
      go_wp2_with fail
      refine (C2.out _).mono ?_
      rintro e w2 ⟨rfl, hbel⟩
      have HB2 : Hid (Below w.heap.size w w2) := HB1.out.trans (hbel.mono HB1.out.size)
      clear hbel l0 l1 l2 l3 l4 l5 l6 l7
      go_wp2_with fail
      refine (admitAwake_any _).mono ?_
      rintro e w3 ⟨rfl, hbel⟩
      have HB3 : Hid (Below w.heap.size w w3) := HB2.out.trans (hbel.mono HB2.out.size)
      clear hbel
      go_wp2
      go_ret
      exact ⟨by first | rfl | simp, HB3.out⟩
end Go.Proofs.Ytepbchaeeldjmaa
