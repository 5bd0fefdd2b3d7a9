/- The walk of the law PlanOthers. -/
import Derived.Test.YtmbelomekihdkaaPlanWalk
namespace Go.Proofs.Ytmbelomekihdkaa
open Go.RowKit

set_option maxHeartbeats 2000000 in
theorem planOthers_any (a b c d a' b' c' d' : Int) (ha : I64 a) (hb : I64 b) (hc : I64 c) (hd : I64 d) (ha' : I64 a') (hb' : I64 b') (hc' : I64 c') (hd' : I64 d') (w : World) :
    Calls Try.prog 4 #[.agg #[.int .i64 a, .int .i64 b, .int .i64 c, .int .i64 d], .agg #[.int .i64 a', .int .i64 b', .int .i64 c', .int .i64 d']] w fun e w' => e = .returned (.bool true) ∧ Below w.heap.size w w' := by
  obtain ⟨⟨⟨t0, t1, t2, t3⟩, er⟩, hr⟩ : ∃ r, upgradeS a b c d = r := ⟨_, rfl⟩
  obtain ⟨⟨⟨u0, u1, u2, u3⟩, fr⟩, hq⟩ : ∃ r, returnS a b c d a' b' c' d' = r := ⟨_, rfl⟩
  have C1 := Lib.hid (upgrade_any a b c d ha hb hc hd _ hr)
  have C2 := Lib.hid (refUpgrade_any a b c d ha hb hc hd _ hr)
  have C3 := Lib.hid (ret_any a b c d a' b' c' d' ha hb hc hd ha' hb' hc' hd' _ hq)
  have C4 := Lib.hid (refRet_any a b c d a' b' c' d' ha hb hc hd ha' hb' hc' hd' _ hq)
  have C5 := Lib.hid planAwake_any
  clear hr hq
  go_enter Try.func4, Try.ntmps4
  go_wp2_with fail
  with_reducible refine (C1.out _).mono ?_
  rintro e w1 ⟨rfl, hb1⟩
  obtain ⟨hcc1, hcf1⟩ := below_cells hb1
  have HB1 : Hid (Below w.heap.size w w1) := Below.trans (by (repeat (first | with_reducible exact Below.refl _ _ | with_reducible refine Below.setCell ?_ (by first | (simp; done) | (simp; omega) | omega) _ | with_reducible refine Below.alloc ?_ (by first | (simp; done) | (simp; omega) | omega) _ | with_reducible refine Below.drew ?_))) (hb1.mono (by first | (simp; done) | (simp; omega) | omega))
  have hsz1_0 : w.heap.size < w1.heap.size := by have := hb1.size; first | omega | (simp at this; omega)
  have hsz1_1 : w.heap.size + 1 < w1.heap.size := by have := hb1.size; first | omega | (simp at this; omega)
  have l1_0 : w1.cell? ⟨w.heap.size, 0, none⟩ = some (.int .i64 a) := by rw [hcc1 _ _ (by first | (simp; done) | (simp; omega) | omega)]; first | assumption | go_simp
  have l1_1 : w1.cell? ⟨w.heap.size, 1, none⟩ = some (.int .i64 b) := by rw [hcc1 _ _ (by first | (simp; done) | (simp; omega) | omega)]; first | assumption | go_simp
  have l1_2 : w1.cell? ⟨w.heap.size, 2, none⟩ = some (.int .i64 c) := by rw [hcc1 _ _ (by first | (simp; done) | (simp; omega) | omega)]; first | assumption | go_simp
  have l1_3 : w1.cell? ⟨w.heap.size, 3, none⟩ = some (.int .i64 d) := by rw [hcc1 _ _ (by first | (simp; done) | (simp; omega) | omega)]; first | assumption | go_simp
  have m1_0 : w1.cell? ⟨w.heap.size + 1, 0, none⟩ = some (.int .i64 a') := by rw [hcc1 _ _ (by first | (simp; done) | (simp; omega) | omega)]; first | assumption | go_simp
  have m1_1 : w1.cell? ⟨w.heap.size + 1, 1, none⟩ = some (.int .i64 b') := by rw [hcc1 _ _ (by first | (simp; done) | (simp; omega) | omega)]; first | assumption | go_simp
  have m1_2 : w1.cell? ⟨w.heap.size + 1, 2, none⟩ = some (.int .i64 c') := by rw [hcc1 _ _ (by first | (simp; done) | (simp; omega) | omega)]; first | assumption | go_simp
  have m1_3 : w1.cell? ⟨w.heap.size + 1, 3, none⟩ = some (.int .i64 d') := by rw [hcc1 _ _ (by first | (simp; done) | (simp; omega) | omega)]; first | assumption | go_simp
  go_wp2_with fail
  with_reducible refine (C2.out _).mono ?_
  rintro e w2 ⟨rfl, hb2⟩
  obtain ⟨hcc2, hcf2⟩ := below_cells hb2
  have HB2 : Hid (Below w.heap.size w w2) := Below.trans (by (repeat (first | with_reducible exact Below.refl _ _ | with_reducible exact HB1.out | with_reducible refine Below.setCell ?_ (by first | (simp; done) | (simp; omega) | omega) _ | with_reducible refine Below.alloc ?_ (by first | (simp; done) | (simp; omega) | omega) _ | with_reducible refine Below.drew ?_))) (hb2.mono (by first | (simp; done) | (simp; omega) | omega))
  have hsz2_0 : w.heap.size < w2.heap.size := by have := hb2.size; first | omega | (simp at this; omega)
  have hsz2_1 : w.heap.size + 1 < w2.heap.size := by have := hb2.size; first | omega | (simp at this; omega)
  have hsz2_2 : w1.heap.size < w2.heap.size := by have := hb2.size; first | omega | (simp at this; omega)
  have l2_0 : w2.cell? ⟨w.heap.size, 0, none⟩ = some (.int .i64 a) := by rw [hcc2 _ _ (by first | (simp; done) | (simp; omega) | omega)]; first | assumption | go_simp
  have l2_1 : w2.cell? ⟨w.heap.size, 1, none⟩ = some (.int .i64 b) := by rw [hcc2 _ _ (by first | (simp; done) | (simp; omega) | omega)]; first | assumption | go_simp
  have l2_2 : w2.cell? ⟨w.heap.size, 2, none⟩ = some (.int .i64 c) := by rw [hcc2 _ _ (by first | (simp; done) | (simp; omega) | omega)]; first | assumption | go_simp
  have l2_3 : w2.cell? ⟨w.heap.size, 3, none⟩ = some (.int .i64 d) := by rw [hcc2 _ _ (by first | (simp; done) | (simp; omega) | omega)]; first | assumption | go_simp
  have m2_0 : w2.cell? ⟨w.heap.size + 1, 0, none⟩ = some (.int .i64 a') := by rw [hcc2 _ _ (by first | (simp; done) | (simp; omega) | omega)]; first | assumption | go_simp
  have m2_1 : w2.cell? ⟨w.heap.size + 1, 1, none⟩ = some (.int .i64 b') := by rw [hcc2 _ _ (by first | (simp; done) | (simp; omega) | omega)]; first | assumption | go_simp
  have m2_2 : w2.cell? ⟨w.heap.size + 1, 2, none⟩ = some (.int .i64 c') := by rw [hcc2 _ _ (by first | (simp; done) | (simp; omega) | omega)]; first | assumption | go_simp
  have m2_3 : w2.cell? ⟨w.heap.size + 1, 3, none⟩ = some (.int .i64 d') := by rw [hcc2 _ _ (by first | (simp; done) | (simp; omega) | omega)]; first | assumption | go_simp
  have t2_0 : w2.cell? ⟨w1.heap.size, 0, none⟩ = some (.int .i64 t0) := by rw [hcc2 _ _ (by first | (simp; done) | (simp; omega) | omega)]; first | assumption | go_simp
  have t2_1 : w2.cell? ⟨w1.heap.size, 1, none⟩ = some (.int .i64 t1) := by rw [hcc2 _ _ (by first | (simp; done) | (simp; omega) | omega)]; first | assumption | go_simp
  have t2_2 : w2.cell? ⟨w1.heap.size, 2, none⟩ = some (.int .i64 t2) := by rw [hcc2 _ _ (by first | (simp; done) | (simp; omega) | omega)]; first | assumption | go_simp
  have t2_3 : w2.cell? ⟨w1.heap.size, 3, none⟩ = some (.int .i64 t3) := by rw [hcc2 _ _ (by first | (simp; done) | (simp; omega) | omega)]; first | assumption | go_simp
  go_wp2_with fail
  with_reducible refine (C3.out _).mono ?_
  rintro e w3 ⟨rfl, hb3⟩
  obtain ⟨hcc3, hcf3⟩ := below_cells hb3
  have HB3 : Hid (Below w.heap.size w w3) := Below.trans (by (repeat (first | with_reducible exact Below.refl _ _ | with_reducible exact HB1.out | with_reducible exact HB2.out | with_reducible refine Below.setCell ?_ (by first | (simp; done) | (simp; omega) | omega) _ | with_reducible refine Below.alloc ?_ (by first | (simp; done) | (simp; omega) | omega) _ | with_reducible refine Below.drew ?_))) (hb3.mono (by first | (simp; done) | (simp; omega) | omega))
  have hsz3_0 : w.heap.size < w3.heap.size := by have := hb3.size; first | omega | (simp at this; omega)
  have hsz3_1 : w.heap.size + 1 < w3.heap.size := by have := hb3.size; first | omega | (simp at this; omega)
  have hsz3_2 : w1.heap.size < w3.heap.size := by have := hb3.size; first | omega | (simp at this; omega)
  have hsz3_3 : w2.heap.size < w3.heap.size := by have := hb3.size; first | omega | (simp at this; omega)
  have l3_0 : w3.cell? ⟨w.heap.size, 0, none⟩ = some (.int .i64 a) := by rw [hcc3 _ _ (by first | (simp; done) | (simp; omega) | omega)]; first | assumption | go_simp
  have l3_1 : w3.cell? ⟨w.heap.size, 1, none⟩ = some (.int .i64 b) := by rw [hcc3 _ _ (by first | (simp; done) | (simp; omega) | omega)]; first | assumption | go_simp
  have l3_2 : w3.cell? ⟨w.heap.size, 2, none⟩ = some (.int .i64 c) := by rw [hcc3 _ _ (by first | (simp; done) | (simp; omega) | omega)]; first | assumption | go_simp
  have l3_3 : w3.cell? ⟨w.heap.size, 3, none⟩ = some (.int .i64 d) := by rw [hcc3 _ _ (by first | (simp; done) | (simp; omega) | omega)]; first | assumption | go_simp
  have m3_0 : w3.cell? ⟨w.heap.size + 1, 0, none⟩ = some (.int .i64 a') := by rw [hcc3 _ _ (by first | (simp; done) | (simp; omega) | omega)]; first | assumption | go_simp
  have m3_1 : w3.cell? ⟨w.heap.size + 1, 1, none⟩ = some (.int .i64 b') := by rw [hcc3 _ _ (by first | (simp; done) | (simp; omega) | omega)]; first | assumption | go_simp
  have m3_2 : w3.cell? ⟨w.heap.size + 1, 2, none⟩ = some (.int .i64 c') := by rw [hcc3 _ _ (by first | (simp; done) | (simp; omega) | omega)]; first | assumption | go_simp
  have m3_3 : w3.cell? ⟨w.heap.size + 1, 3, none⟩ = some (.int .i64 d') := by rw [hcc3 _ _ (by first | (simp; done) | (simp; omega) | omega)]; first | assumption | go_simp
  have t3_0 : w3.cell? ⟨w1.heap.size, 0, none⟩ = some (.int .i64 t0) := by rw [hcc3 _ _ (by first | (simp; done) | (simp; omega) | omega)]; first | assumption | go_simp
  have t3_1 : w3.cell? ⟨w1.heap.size, 1, none⟩ = some (.int .i64 t1) := by rw [hcc3 _ _ (by first | (simp; done) | (simp; omega) | omega)]; first | assumption | go_simp
  have t3_2 : w3.cell? ⟨w1.heap.size, 2, none⟩ = some (.int .i64 t2) := by rw [hcc3 _ _ (by first | (simp; done) | (simp; omega) | omega)]; first | assumption | go_simp
  have t3_3 : w3.cell? ⟨w1.heap.size, 3, none⟩ = some (.int .i64 t3) := by rw [hcc3 _ _ (by first | (simp; done) | (simp; omega) | omega)]; first | assumption | go_simp
  have p3_0 : w3.cell? ⟨w2.heap.size, 0, none⟩ = some (.int .i64 t0) := by rw [hcc3 _ _ (by first | (simp; done) | (simp; omega) | omega)]; first | assumption | go_simp
  have p3_1 : w3.cell? ⟨w2.heap.size, 1, none⟩ = some (.int .i64 t1) := by rw [hcc3 _ _ (by first | (simp; done) | (simp; omega) | omega)]; first | assumption | go_simp
  have p3_2 : w3.cell? ⟨w2.heap.size, 2, none⟩ = some (.int .i64 t2) := by rw [hcc3 _ _ (by first | (simp; done) | (simp; omega) | omega)]; first | assumption | go_simp
  have p3_3 : w3.cell? ⟨w2.heap.size, 3, none⟩ = some (.int .i64 t3) := by rw [hcc3 _ _ (by first | (simp; done) | (simp; omega) | omega)]; first | assumption | go_simp
  go_wp2_with fail
  with_reducible refine (C4.out _).mono ?_
  rintro e w4 ⟨rfl, hb4⟩
  obtain ⟨hcc4, hcf4⟩ := below_cells hb4
  have HB4 : Hid (Below w.heap.size w w4) := Below.trans (by (repeat (first | with_reducible exact Below.refl _ _ | with_reducible exact HB1.out | with_reducible exact HB2.out | with_reducible exact HB3.out | with_reducible refine Below.setCell ?_ (by first | (simp; done) | (simp; omega) | omega) _ | with_reducible refine Below.alloc ?_ (by first | (simp; done) | (simp; omega) | omega) _ | with_reducible refine Below.drew ?_))) (hb4.mono (by first | (simp; done) | (simp; omega) | omega))
  have hsz4_0 : w1.heap.size < w4.heap.size := by have := hb4.size; first | omega | (simp at this; omega)
  have hsz4_1 : w2.heap.size < w4.heap.size := by have := hb4.size; first | omega | (simp at this; omega)
  have hsz4_2 : w3.heap.size < w4.heap.size := by have := hb4.size; first | omega | (simp at this; omega)
  have t4_0 : w4.cell? ⟨w1.heap.size, 0, none⟩ = some (.int .i64 t0) := by rw [hcc4 _ _ (by first | (simp; done) | (simp; omega) | omega)]; first | assumption | go_simp
  have t4_1 : w4.cell? ⟨w1.heap.size, 1, none⟩ = some (.int .i64 t1) := by rw [hcc4 _ _ (by first | (simp; done) | (simp; omega) | omega)]; first | assumption | go_simp
  have t4_2 : w4.cell? ⟨w1.heap.size, 2, none⟩ = some (.int .i64 t2) := by rw [hcc4 _ _ (by first | (simp; done) | (simp; omega) | omega)]; first | assumption | go_simp
  have t4_3 : w4.cell? ⟨w1.heap.size, 3, none⟩ = some (.int .i64 t3) := by rw [hcc4 _ _ (by first | (simp; done) | (simp; omega) | omega)]; first | assumption | go_simp
  have p4_0 : w4.cell? ⟨w2.heap.size, 0, none⟩ = some (.int .i64 t0) := by rw [hcc4 _ _ (by first | (simp; done) | (simp; omega) | omega)]; first | assumption | go_simp
  have p4_1 : w4.cell? ⟨w2.heap.size, 1, none⟩ = some (.int .i64 t1) := by rw [hcc4 _ _ (by first | (simp; done) | (simp; omega) | omega)]; first | assumption | go_simp
  have p4_2 : w4.cell? ⟨w2.heap.size, 2, none⟩ = some (.int .i64 t2) := by rw [hcc4 _ _ (by first | (simp; done) | (simp; omega) | omega)]; first | assumption | go_simp
  have p4_3 : w4.cell? ⟨w2.heap.size, 3, none⟩ = some (.int .i64 t3) := by rw [hcc4 _ _ (by first | (simp; done) | (simp; omega) | omega)]; first | assumption | go_simp
  have q4_0 : w4.cell? ⟨w3.heap.size, 0, none⟩ = some (.int .i64 u0) := by rw [hcc4 _ _ (by first | (simp; done) | (simp; omega) | omega)]; first | assumption | go_simp
  have q4_1 : w4.cell? ⟨w3.heap.size, 1, none⟩ = some (.int .i64 u1) := by rw [hcc4 _ _ (by first | (simp; done) | (simp; omega) | omega)]; first | assumption | go_simp
  have q4_2 : w4.cell? ⟨w3.heap.size, 2, none⟩ = some (.int .i64 u2) := by rw [hcc4 _ _ (by first | (simp; done) | (simp; omega) | omega)]; first | assumption | go_simp
  have q4_3 : w4.cell? ⟨w3.heap.size, 3, none⟩ = some (.int .i64 u3) := by rw [hcc4 _ _ (by first | (simp; done) | (simp; omega) | omega)]; first | assumption | go_simp
  go_wp2_with fail
  with_reducible refine (C5.out _).mono ?_
  rintro e w5 ⟨rfl, hb5⟩
  obtain ⟨hcc5, hcf5⟩ := below_cells hb5
  have HB5 : Hid (Below w.heap.size w w5) := Below.trans (by (repeat (first | with_reducible exact Below.refl _ _ | with_reducible exact HB1.out | with_reducible exact HB2.out | with_reducible exact HB3.out | with_reducible exact HB4.out | with_reducible refine Below.setCell ?_ (by first | (simp; done) | (simp; omega) | omega) _ | with_reducible refine Below.alloc ?_ (by first | (simp; done) | (simp; omega) | omega) _ | with_reducible refine Below.drew ?_))) (hb5.mono (by first | (simp; done) | (simp; omega) | omega))
  have hsz5_0 : w1.heap.size < w5.heap.size := by have := hb5.size; first | omega | (simp at this; omega)
  have hsz5_1 : w2.heap.size < w5.heap.size := by have := hb5.size; first | omega | (simp at this; omega)
  have hsz5_2 : w3.heap.size < w5.heap.size := by have := hb5.size; first | omega | (simp at this; omega)
  have hsz5_3 : w4.heap.size < w5.heap.size := by have := hb5.size; first | omega | (simp at this; omega)
  have t5_0 : w5.cell? ⟨w1.heap.size, 0, none⟩ = some (.int .i64 t0) := by rw [hcc5 _ _ (by first | (simp; done) | (simp; omega) | omega)]; first | assumption | go_simp
  have t5_1 : w5.cell? ⟨w1.heap.size, 1, none⟩ = some (.int .i64 t1) := by rw [hcc5 _ _ (by first | (simp; done) | (simp; omega) | omega)]; first | assumption | go_simp
  have t5_2 : w5.cell? ⟨w1.heap.size, 2, none⟩ = some (.int .i64 t2) := by rw [hcc5 _ _ (by first | (simp; done) | (simp; omega) | omega)]; first | assumption | go_simp
  have t5_3 : w5.cell? ⟨w1.heap.size, 3, none⟩ = some (.int .i64 t3) := by rw [hcc5 _ _ (by first | (simp; done) | (simp; omega) | omega)]; first | assumption | go_simp
  have p5_0 : w5.cell? ⟨w2.heap.size, 0, none⟩ = some (.int .i64 t0) := by rw [hcc5 _ _ (by first | (simp; done) | (simp; omega) | omega)]; first | assumption | go_simp
  have p5_1 : w5.cell? ⟨w2.heap.size, 1, none⟩ = some (.int .i64 t1) := by rw [hcc5 _ _ (by first | (simp; done) | (simp; omega) | omega)]; first | assumption | go_simp
  have p5_2 : w5.cell? ⟨w2.heap.size, 2, none⟩ = some (.int .i64 t2) := by rw [hcc5 _ _ (by first | (simp; done) | (simp; omega) | omega)]; first | assumption | go_simp
  have p5_3 : w5.cell? ⟨w2.heap.size, 3, none⟩ = some (.int .i64 t3) := by rw [hcc5 _ _ (by first | (simp; done) | (simp; omega) | omega)]; first | assumption | go_simp
  have q5_0 : w5.cell? ⟨w3.heap.size, 0, none⟩ = some (.int .i64 u0) := by rw [hcc5 _ _ (by first | (simp; done) | (simp; omega) | omega)]; first | assumption | go_simp
  have q5_1 : w5.cell? ⟨w3.heap.size, 1, none⟩ = some (.int .i64 u1) := by rw [hcc5 _ _ (by first | (simp; done) | (simp; omega) | omega)]; first | assumption | go_simp
  have q5_2 : w5.cell? ⟨w3.heap.size, 2, none⟩ = some (.int .i64 u2) := by rw [hcc5 _ _ (by first | (simp; done) | (simp; omega) | omega)]; first | assumption | go_simp
  have q5_3 : w5.cell? ⟨w3.heap.size, 3, none⟩ = some (.int .i64 u3) := by rw [hcc5 _ _ (by first | (simp; done) | (simp; omega) | omega)]; first | assumption | go_simp
  have v5_0 : w5.cell? ⟨w4.heap.size, 0, none⟩ = some (.int .i64 u0) := by rw [hcc5 _ _ (by first | (simp; done) | (simp; omega) | omega)]; first | assumption | go_simp
  have v5_1 : w5.cell? ⟨w4.heap.size, 1, none⟩ = some (.int .i64 u1) := by rw [hcc5 _ _ (by first | (simp; done) | (simp; omega) | omega)]; first | assumption | go_simp
  have v5_2 : w5.cell? ⟨w4.heap.size, 2, none⟩ = some (.int .i64 u2) := by rw [hcc5 _ _ (by first | (simp; done) | (simp; omega) | omega)]; first | assumption | go_simp
  have v5_3 : w5.cell? ⟨w4.heap.size, 3, none⟩ = some (.int .i64 u3) := by rw [hcc5 _ _ (by first | (simp; done) | (simp; omega) | omega)]; first | assumption | go_simp
  go_wp2_with fail
  go_ret
  exact ⟨rfl, by (repeat (first | with_reducible exact Below.refl _ _ | with_reducible exact HB1.out | with_reducible exact HB2.out | with_reducible exact HB3.out | with_reducible exact HB4.out | with_reducible exact HB5.out | with_reducible refine Below.setCell ?_ (by first | (simp; done) | (simp; omega) | omega) _ | with_reducible refine Below.alloc ?_ (by first | (simp; done) | (simp; omega) | omega) _ | with_reducible refine Below.drew ?_))⟩

end Go.Proofs.Ytmbelomekihdkaa
