/- The walks of the laws PlanResize, PlanOthers, PlanTargets. -/
import Derived.Test.YtmbelomekihdkaaResize
import Derived.Laws.StructEq
namespace Go.Proofs.Ytmbelomekihdkaa
open Go.RowKit

theorem awake_1 : resizeS 1 1 4 4 100 4 6 = ((2, 1, 4, 6), 0) := by decide
theorem awake_2 : resizeS 1 1 4 4 100 4 7 = ((0, 0, 0, 0), 10) := by decide
theorem awake_3 : upgradeS 1 1 4 4 = ((2, 2, 4, 4), 0) := by decide

set_option maxHeartbeats 1000000 in
theorem planAwake_any (w : World) : Calls Try.prog 12 #[] w fun e w' => e = .returned (.bool true) ∧ Below w.heap.size w w' := by
  have C1 := Lib.hid (resize_any 1 1 4 4 100 4 6 ⟨by decide, by decide⟩ ⟨by decide, by decide⟩ ⟨by decide, by decide⟩ ⟨by decide, by decide⟩ ⟨by decide, by decide⟩ ⟨by decide, by decide⟩ _ awake_1)
  have C2 := Lib.hid (resize_any 1 1 4 4 100 4 7 ⟨by decide, by decide⟩ ⟨by decide, by decide⟩ ⟨by decide, by decide⟩ ⟨by decide, by decide⟩ ⟨by decide, by decide⟩ ⟨by decide, by decide⟩ _ awake_2)
  have C3 := Lib.hid (upgrade_any 1 1 4 4 ⟨by decide, by decide⟩ ⟨by decide, by decide⟩ ⟨by decide, by decide⟩ ⟨by decide, by decide⟩ _ awake_3)
  go_enter Try.func12, Try.ntmps12
  go_wp2_with fail
  with_reducible refine (C1.out _).mono ?_
  rintro e w1 ⟨rfl, hb1⟩
  obtain ⟨hcc1, hcf1⟩ := below_cells hb1
  have HB1 : Hid (Below w.heap.size w w1) := Below.trans (by (repeat (first | with_reducible exact Below.refl _ _ | with_reducible refine Below.setCell ?_ (by first | (simp; done) | (simp; omega) | omega) _ | with_reducible refine Below.alloc ?_ (by first | (simp; done) | (simp; omega) | omega) _ | with_reducible refine Below.drew ?_))) (hb1.mono (by first | (simp; done) | (simp; omega) | omega))
  have hsz1_0 : w.heap.size < w1.heap.size := by have := hb1.size; first | omega | (simp at this; omega)
  have l1_0 : w1.cell? ⟨w.heap.size, 0, none⟩ = some (.int .i64 1) := by rw [hcc1 _ _ (by first | (simp; done) | (simp; omega) | omega)]; first | assumption | go_simp
  have l1_1 : w1.cell? ⟨w.heap.size, 1, none⟩ = some (.int .i64 1) := by rw [hcc1 _ _ (by first | (simp; done) | (simp; omega) | omega)]; first | assumption | go_simp
  have l1_2 : w1.cell? ⟨w.heap.size, 2, none⟩ = some (.int .i64 4) := by rw [hcc1 _ _ (by first | (simp; done) | (simp; omega) | omega)]; first | assumption | go_simp
  have l1_3 : w1.cell? ⟨w.heap.size, 3, none⟩ = some (.int .i64 4) := by rw [hcc1 _ _ (by first | (simp; done) | (simp; omega) | omega)]; first | assumption | go_simp
  go_wp2_with fail
  with_reducible refine (C2.out _).mono ?_
  rintro e w2 ⟨rfl, hb2⟩
  obtain ⟨hcc2, hcf2⟩ := below_cells hb2
  have HB2 : Hid (Below w.heap.size w w2) := Below.trans (by (repeat (first | with_reducible exact Below.refl _ _ | with_reducible exact HB1.out | with_reducible refine Below.setCell ?_ (by first | (simp; done) | (simp; omega) | omega) _ | with_reducible refine Below.alloc ?_ (by first | (simp; done) | (simp; omega) | omega) _ | with_reducible refine Below.drew ?_))) (hb2.mono (by first | (simp; done) | (simp; omega) | omega))
  have hsz2_0 : w.heap.size < w2.heap.size := by have := hb2.size; first | omega | (simp at this; omega)
  have hsz2_1 : w1.heap.size < w2.heap.size := by have := hb2.size; first | omega | (simp at this; omega)
  have l2_0 : w2.cell? ⟨w.heap.size, 0, none⟩ = some (.int .i64 1) := by rw [hcc2 _ _ (by first | (simp; done) | (simp; omega) | omega)]; first | assumption | go_simp
  have l2_1 : w2.cell? ⟨w.heap.size, 1, none⟩ = some (.int .i64 1) := by rw [hcc2 _ _ (by first | (simp; done) | (simp; omega) | omega)]; first | assumption | go_simp
  have l2_2 : w2.cell? ⟨w.heap.size, 2, none⟩ = some (.int .i64 4) := by rw [hcc2 _ _ (by first | (simp; done) | (simp; omega) | omega)]; first | assumption | go_simp
  have l2_3 : w2.cell? ⟨w.heap.size, 3, none⟩ = some (.int .i64 4) := by rw [hcc2 _ _ (by first | (simp; done) | (simp; omega) | omega)]; first | assumption | go_simp
  have t2_0 : w2.cell? ⟨w1.heap.size, 0, none⟩ = some (.int .i64 2) := by rw [hcc2 _ _ (by first | (simp; done) | (simp; omega) | omega)]; first | assumption | go_simp
  have t2_1 : w2.cell? ⟨w1.heap.size, 1, none⟩ = some (.int .i64 1) := by rw [hcc2 _ _ (by first | (simp; done) | (simp; omega) | omega)]; first | assumption | go_simp
  have t2_2 : w2.cell? ⟨w1.heap.size, 2, none⟩ = some (.int .i64 4) := by rw [hcc2 _ _ (by first | (simp; done) | (simp; omega) | omega)]; first | assumption | go_simp
  have t2_3 : w2.cell? ⟨w1.heap.size, 3, none⟩ = some (.int .i64 6) := by rw [hcc2 _ _ (by first | (simp; done) | (simp; omega) | omega)]; first | assumption | go_simp
  go_wp2_with fail
  with_reducible refine (C3.out _).mono ?_
  rintro e w3 ⟨rfl, hb3⟩
  obtain ⟨hcc3, hcf3⟩ := below_cells hb3
  have HB3 : Hid (Below w.heap.size w w3) := Below.trans (by (repeat (first | with_reducible exact Below.refl _ _ | with_reducible exact HB1.out | with_reducible exact HB2.out | with_reducible refine Below.setCell ?_ (by first | (simp; done) | (simp; omega) | omega) _ | with_reducible refine Below.alloc ?_ (by first | (simp; done) | (simp; omega) | omega) _ | with_reducible refine Below.drew ?_))) (hb3.mono (by first | (simp; done) | (simp; omega) | omega))
  have hsz3_0 : w.heap.size < w3.heap.size := by have := hb3.size; first | omega | (simp at this; omega)
  have hsz3_1 : w1.heap.size < w3.heap.size := by have := hb3.size; first | omega | (simp at this; omega)
  have hsz3_2 : w2.heap.size < w3.heap.size := by have := hb3.size; first | omega | (simp at this; omega)
  have t3_0 : w3.cell? ⟨w1.heap.size, 0, none⟩ = some (.int .i64 2) := by rw [hcc3 _ _ (by first | (simp; done) | (simp; omega) | omega)]; first | assumption | go_simp
  have t3_1 : w3.cell? ⟨w1.heap.size, 1, none⟩ = some (.int .i64 1) := by rw [hcc3 _ _ (by first | (simp; done) | (simp; omega) | omega)]; first | assumption | go_simp
  have t3_2 : w3.cell? ⟨w1.heap.size, 2, none⟩ = some (.int .i64 4) := by rw [hcc3 _ _ (by first | (simp; done) | (simp; omega) | omega)]; first | assumption | go_simp
  have t3_3 : w3.cell? ⟨w1.heap.size, 3, none⟩ = some (.int .i64 6) := by rw [hcc3 _ _ (by first | (simp; done) | (simp; omega) | omega)]; first | assumption | go_simp
  go_wp2_with fail
  go_ret
  exact ⟨rfl, by (repeat (first | with_reducible exact Below.refl _ _ | with_reducible exact HB1.out | with_reducible exact HB2.out | with_reducible exact HB3.out | with_reducible refine Below.setCell ?_ (by first | (simp; done) | (simp; omega) | omega) _ | with_reducible refine Below.alloc ?_ (by first | (simp; done) | (simp; omega) | omega) _ | with_reducible refine Below.drew ?_))⟩

set_option maxHeartbeats 1000000 in
theorem planResize_any (a b c d s rs rg : Int) (ha : I64 a) (hb : I64 b) (hc : I64 c) (hd : I64 d) (hrs : I64 rs) (hrg : I64 rg) (w : World) :
    Calls Try.prog 3 #[.agg #[.int .i64 a, .int .i64 b, .int .i64 c, .int .i64 d, .int .i64 s, .int .i64 rs, .int .i64 rg]] w fun e w' => e = .returned (.bool true) ∧ Below w.heap.size w w' := by
  obtain ⟨⟨⟨t0, t1, t2, t3⟩, er⟩, hr⟩ : ∃ r, resizeS a b c d s rs rg = r := ⟨_, rfl⟩
  have C1 := Lib.hid (resize_any a b c d s rs rg ha hb hc hd hrs hrg _ hr)
  have C2 := Lib.hid (refResize_any a b c d s rs rg ha hb hc hd hrs hrg _ hr)
  have C3 := Lib.hid planAwake_any
  clear hr
  go_enter Try.func3, Try.ntmps3
  go_wp2_with fail
  go_region
  go_wp2_with fail
  with_reducible refine (C1.out _).mono ?_
  rintro e w1 ⟨rfl, hb1⟩
  obtain ⟨hcc1, hcf1⟩ := below_cells hb1
  have HB1 : Hid (Below w.heap.size w w1) := Below.trans (by (repeat (first | with_reducible exact Below.refl _ _ | with_reducible refine Below.setCell ?_ (by first | (simp; done) | (simp; omega) | omega) _ | with_reducible refine Below.alloc ?_ (by first | (simp; done) | (simp; omega) | omega) _ | with_reducible refine Below.drew ?_))) (hb1.mono (by first | (simp; done) | (simp; omega) | omega))
  have hsz1_0 : w.heap.size < w1.heap.size := by have := hb1.size; first | omega | (simp at this; omega)
  have hsz1_1 : w.heap.size + 1 < w1.heap.size := by have := hb1.size; first | omega | (simp at this; omega)
  have l1_0 : w1.cell? ⟨w.heap.size + 1, 0, none⟩ = some (.int .i64 a) := by rw [hcc1 _ _ (by first | (simp; done) | (simp; omega) | omega)]; first | assumption | go_simp
  have l1_1 : w1.cell? ⟨w.heap.size + 1, 1, none⟩ = some (.int .i64 b) := by rw [hcc1 _ _ (by first | (simp; done) | (simp; omega) | omega)]; first | assumption | go_simp
  have l1_2 : w1.cell? ⟨w.heap.size + 1, 2, none⟩ = some (.int .i64 c) := by rw [hcc1 _ _ (by first | (simp; done) | (simp; omega) | omega)]; first | assumption | go_simp
  have l1_3 : w1.cell? ⟨w.heap.size + 1, 3, none⟩ = some (.int .i64 d) := by rw [hcc1 _ _ (by first | (simp; done) | (simp; omega) | omega)]; first | assumption | go_simp
  go_wp2_with fail
  with_reducible refine (C2.out _).mono ?_
  rintro e w2 ⟨rfl, hb2⟩
  obtain ⟨hcc2, hcf2⟩ := below_cells hb2
  have HB2 : Hid (Below w.heap.size w w2) := Below.trans (by (repeat (first | with_reducible exact Below.refl _ _ | with_reducible exact HB1.out | with_reducible refine Below.setCell ?_ (by first | (simp; done) | (simp; omega) | omega) _ | with_reducible refine Below.alloc ?_ (by first | (simp; done) | (simp; omega) | omega) _ | with_reducible refine Below.drew ?_))) (hb2.mono (by first | (simp; done) | (simp; omega) | omega))
  have hsz2_0 : w.heap.size < w2.heap.size := by have := hb2.size; first | omega | (simp at this; omega)
  have hsz2_1 : w1.heap.size < w2.heap.size := by have := hb2.size; first | omega | (simp at this; omega)
  have t2_0 : w2.cell? ⟨w1.heap.size, 0, none⟩ = some (.int .i64 t0) := by rw [hcc2 _ _ (by first | (simp; done) | (simp; omega) | omega)]; first | assumption | go_simp
  have t2_1 : w2.cell? ⟨w1.heap.size, 1, none⟩ = some (.int .i64 t1) := by rw [hcc2 _ _ (by first | (simp; done) | (simp; omega) | omega)]; first | assumption | go_simp
  have t2_2 : w2.cell? ⟨w1.heap.size, 2, none⟩ = some (.int .i64 t2) := by rw [hcc2 _ _ (by first | (simp; done) | (simp; omega) | omega)]; first | assumption | go_simp
  have t2_3 : w2.cell? ⟨w1.heap.size, 3, none⟩ = some (.int .i64 t3) := by rw [hcc2 _ _ (by first | (simp; done) | (simp; omega) | omega)]; first | assumption | go_simp
  go_wp2_with fail
  with_reducible refine (C3.out _).mono ?_
  rintro e w3 ⟨rfl, hb3⟩
  obtain ⟨hcc3, hcf3⟩ := below_cells hb3
  have HB3 : Hid (Below w.heap.size w w3) := Below.trans (by (repeat (first | with_reducible exact Below.refl _ _ | with_reducible exact HB1.out | with_reducible exact HB2.out | with_reducible refine Below.setCell ?_ (by first | (simp; done) | (simp; omega) | omega) _ | with_reducible refine Below.alloc ?_ (by first | (simp; done) | (simp; omega) | omega) _ | with_reducible refine Below.drew ?_))) (hb3.mono (by first | (simp; done) | (simp; omega) | omega))
  have hsz3_0 : w.heap.size < w3.heap.size := by have := hb3.size; first | omega | (simp at this; omega)
  have hsz3_1 : w1.heap.size < w3.heap.size := by have := hb3.size; first | omega | (simp at this; omega)
  have hsz3_2 : w2.heap.size < w3.heap.size := by have := hb3.size; first | omega | (simp at this; omega)
  have t3_0 : w3.cell? ⟨w1.heap.size, 0, none⟩ = some (.int .i64 t0) := by rw [hcc3 _ _ (by first | (simp; done) | (simp; omega) | omega)]; first | assumption | go_simp
  have t3_1 : w3.cell? ⟨w1.heap.size, 1, none⟩ = some (.int .i64 t1) := by rw [hcc3 _ _ (by first | (simp; done) | (simp; omega) | omega)]; first | assumption | go_simp
  have t3_2 : w3.cell? ⟨w1.heap.size, 2, none⟩ = some (.int .i64 t2) := by rw [hcc3 _ _ (by first | (simp; done) | (simp; omega) | omega)]; first | assumption | go_simp
  have t3_3 : w3.cell? ⟨w1.heap.size, 3, none⟩ = some (.int .i64 t3) := by rw [hcc3 _ _ (by first | (simp; done) | (simp; omega) | omega)]; first | assumption | go_simp
  have u3_0 : w3.cell? ⟨w2.heap.size, 0, none⟩ = some (.int .i64 t0) := by rw [hcc3 _ _ (by first | (simp; done) | (simp; omega) | omega)]; first | assumption | go_simp
  have u3_1 : w3.cell? ⟨w2.heap.size, 1, none⟩ = some (.int .i64 t1) := by rw [hcc3 _ _ (by first | (simp; done) | (simp; omega) | omega)]; first | assumption | go_simp
  have u3_2 : w3.cell? ⟨w2.heap.size, 2, none⟩ = some (.int .i64 t2) := by rw [hcc3 _ _ (by first | (simp; done) | (simp; omega) | omega)]; first | assumption | go_simp
  have u3_3 : w3.cell? ⟨w2.heap.size, 3, none⟩ = some (.int .i64 t3) := by rw [hcc3 _ _ (by first | (simp; done) | (simp; omega) | omega)]; first | assumption | go_simp
  go_wp2_with fail
  go_ret
  exact ⟨rfl, by (repeat (first | with_reducible exact Below.refl _ _ | with_reducible exact HB1.out | with_reducible exact HB2.out | with_reducible exact HB3.out | with_reducible refine Below.setCell ?_ (by first | (simp; done) | (simp; omega) | omega) _ | with_reducible refine Below.alloc ?_ (by first | (simp; done) | (simp; omega) | omega) _ | with_reducible refine Below.drew ?_))⟩

end Go.Proofs.Ytmbelomekihdkaa
