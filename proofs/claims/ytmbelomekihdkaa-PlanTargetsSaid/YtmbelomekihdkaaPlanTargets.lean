/- The walk of the law PlanTargets. -/
import Derived.Test.YtmbelomekihdkaaPlanWalk
namespace Go.Proofs.Ytmbelomekihdkaa
open Go.RowKit

set_option maxHeartbeats 4000000 in
theorem planTargets_any (a b c d s rs rg : Int) (ha : I64 a) (hb : I64 b) (hc : I64 c) (hd : I64 d) (hrs : I64 rs) (hrg : I64 rg) (w : World) :
    Calls Try.prog 5 #[.agg #[.int .i64 a, .int .i64 b, .int .i64 c, .int .i64 d, .int .i64 s, .int .i64 rs, .int .i64 rg]] w fun e w' => e = .returned (.bool true) ∧ Below w.heap.size w w' := by
  have C9 := Lib.hid planAwake_any
  cases hbase : baseB a b c d
  · have hr : resizeS a b c d s rs rg = ((0, 0, 0, 0), 4) := by rw [resizeS, if_pos hbase]
    clear hbase
    have C1 := Lib.hid (resize_any a b c d s rs rg ha hb hc hd hrs hrg _ hr)
    clear hr
    unfold I64 at *
    go_enter Try.func5, Try.ntmps5
    go_wp2_with fail
    go_region
    go_wp2_with fail
    with_reducible refine (C1.out _).mono ?_
    rintro e w1 ⟨rfl, hb1⟩
    obtain ⟨hcc1, hcf1⟩ := below_cells hb1
    have HB1 : Hid (Below w.heap.size w w1) := Below.trans (by (repeat (first | with_reducible exact Below.refl _ _ | with_reducible refine Below.setCell ?_ (by first | (simp; done) | (simp; omega) | omega) _ | with_reducible refine Below.alloc ?_ (by first | (simp; done) | (simp; omega) | omega) _ | with_reducible refine Below.drew ?_))) (hb1.mono (by first | (simp; done) | (simp; omega) | omega))
    have hsz1_0 : w.heap.size < w1.heap.size := by have := hb1.size; first | omega | (simp at this; omega)
    have hsz1_1 : w.heap.size + 1 < w1.heap.size := by have := hb1.size; first | omega | (simp at this; omega)
    go_wp2_with fail
    with_reducible refine (C9.out _).mono ?_
    rintro e w2 ⟨rfl, hb2⟩
    obtain ⟨hcc2, hcf2⟩ := below_cells hb2
    have HB2 : Hid (Below w.heap.size w w2) := Below.trans (by (repeat (first | with_reducible exact Below.refl _ _ | with_reducible exact HB1.out | with_reducible refine Below.setCell ?_ (by first | (simp; done) | (simp; omega) | omega) _ | with_reducible refine Below.alloc ?_ (by first | (simp; done) | (simp; omega) | omega) _ | with_reducible refine Below.drew ?_))) (hb2.mono (by first | (simp; done) | (simp; omega) | omega))
    have hsz2_0 : w.heap.size < w2.heap.size := by have := hb2.size; first | omega | (simp at this; omega)
    have hsz2_1 : w1.heap.size < w2.heap.size := by have := hb2.size; first | omega | (simp at this; omega)
    have t2_0 : w2.cell? ⟨w1.heap.size, 0, none⟩ = some (.int .i64 0) := by rw [hcc2 _ _ (by first | (simp; done) | (simp; omega) | omega)]; first | assumption | go_simp
    have t2_1 : w2.cell? ⟨w1.heap.size, 1, none⟩ = some (.int .i64 0) := by rw [hcc2 _ _ (by first | (simp; done) | (simp; omega) | omega)]; first | assumption | go_simp
    have t2_2 : w2.cell? ⟨w1.heap.size, 2, none⟩ = some (.int .i64 0) := by rw [hcc2 _ _ (by first | (simp; done) | (simp; omega) | omega)]; first | assumption | go_simp
    have t2_3 : w2.cell? ⟨w1.heap.size, 3, none⟩ = some (.int .i64 0) := by rw [hcc2 _ _ (by first | (simp; done) | (simp; omega) | omega)]; first | assumption | go_simp
    go_wp2_with fail
    go_ret
    exact ⟨rfl, by (repeat (first | with_reducible exact Below.refl _ _ | with_reducible exact HB1.out | with_reducible exact HB2.out | with_reducible refine Below.setCell ?_ (by first | (simp; done) | (simp; omega) | omega) _ | with_reducible refine Below.alloc ?_ (by first | (simp; done) | (simp; omega) | omega) _ | with_reducible refine Below.drew ?_))⟩
  by_cases hx : form (a + 1) b rs rg = false ∨ s < 74 + rg * rs ∨ (rs = c ∧ rg = d)
  · have hr : resizeS a b c d s rs rg = ((0, 0, 0, 0), 10) := by rw [resizeS, if_neg (by rw [hbase]; decide), if_pos hx]
    clear hbase hx
    have C1 := Lib.hid (resize_any a b c d s rs rg ha hb hc hd hrs hrg _ hr)
    clear hr
    unfold I64 at *
    go_enter Try.func5, Try.ntmps5
    go_wp2_with fail
    go_region
    go_wp2_with fail
    with_reducible refine (C1.out _).mono ?_
    rintro e w1 ⟨rfl, hb1⟩
    obtain ⟨hcc1, hcf1⟩ := below_cells hb1
    have HB1 : Hid (Below w.heap.size w w1) := Below.trans (by (repeat (first | with_reducible exact Below.refl _ _ | with_reducible refine Below.setCell ?_ (by first | (simp; done) | (simp; omega) | omega) _ | with_reducible refine Below.alloc ?_ (by first | (simp; done) | (simp; omega) | omega) _ | with_reducible refine Below.drew ?_))) (hb1.mono (by first | (simp; done) | (simp; omega) | omega))
    have hsz1_0 : w.heap.size < w1.heap.size := by have := hb1.size; first | omega | (simp at this; omega)
    have hsz1_1 : w.heap.size + 1 < w1.heap.size := by have := hb1.size; first | omega | (simp at this; omega)
    go_wp2_with fail
    with_reducible refine (C9.out _).mono ?_
    rintro e w2 ⟨rfl, hb2⟩
    obtain ⟨hcc2, hcf2⟩ := below_cells hb2
    have HB2 : Hid (Below w.heap.size w w2) := Below.trans (by (repeat (first | with_reducible exact Below.refl _ _ | with_reducible exact HB1.out | with_reducible refine Below.setCell ?_ (by first | (simp; done) | (simp; omega) | omega) _ | with_reducible refine Below.alloc ?_ (by first | (simp; done) | (simp; omega) | omega) _ | with_reducible refine Below.drew ?_))) (hb2.mono (by first | (simp; done) | (simp; omega) | omega))
    have hsz2_0 : w.heap.size < w2.heap.size := by have := hb2.size; first | omega | (simp at this; omega)
    have hsz2_1 : w1.heap.size < w2.heap.size := by have := hb2.size; first | omega | (simp at this; omega)
    have t2_0 : w2.cell? ⟨w1.heap.size, 0, none⟩ = some (.int .i64 0) := by rw [hcc2 _ _ (by first | (simp; done) | (simp; omega) | omega)]; first | assumption | go_simp
    have t2_1 : w2.cell? ⟨w1.heap.size, 1, none⟩ = some (.int .i64 0) := by rw [hcc2 _ _ (by first | (simp; done) | (simp; omega) | omega)]; first | assumption | go_simp
    have t2_2 : w2.cell? ⟨w1.heap.size, 2, none⟩ = some (.int .i64 0) := by rw [hcc2 _ _ (by first | (simp; done) | (simp; omega) | omega)]; first | assumption | go_simp
    have t2_3 : w2.cell? ⟨w1.heap.size, 3, none⟩ = some (.int .i64 0) := by rw [hcc2 _ _ (by first | (simp; done) | (simp; omega) | omega)]; first | assumption | go_simp
    go_wp2_with fail
    go_ret
    exact ⟨rfl, by (repeat (first | with_reducible exact Below.refl _ _ | with_reducible exact HB1.out | with_reducible exact HB2.out | with_reducible refine Below.setCell ?_ (by first | (simp; done) | (simp; omega) | omega) _ | with_reducible refine Below.alloc ?_ (by first | (simp; done) | (simp; omega) | omega) _ | with_reducible refine Below.drew ?_))⟩
  have hr : resizeS a b c d s rs rg = ((a + 1, b, rs, rg), 0) := by rw [resizeS, if_neg (by rw [hbase]; decide), if_neg hx]
  have C1 := Lib.hid (resize_any a b c d s rs rg ha hb hc hd hrs hrg _ hr)
  obtain ⟨hbt, hba⟩ := baseB_true hbase
  obtain ⟨hf1, _⟩ := form_true hbt
  have hform : form (a + 1) b rs rg = true := by cases h : form (a + 1) b rs rg <;> simp_all
  have hsz : 74 + rg * rs ≤ s := Int.not_lt.1 (fun h => hx (.inr (.inl h)))
  have hne : ¬ (rs = c ∧ rg = d) := fun h => hx (.inr (.inr h))
  obtain ⟨_, _, _, q1, q2, _, q3, q4⟩ := form_true hform
  obtain ⟨q5, q6⟩ := area_le rg rs (by omega) q4 (by omega) q2
  have ha1 : I64 (a + 1) := ⟨by omega, by omega⟩
  clear hx hr hbt
  rcases Int.lt_or_le a 4294967293 with h93 | h93
  · have hb2 : baseB (a + 1) b rs rg = true := by unfold baseB; rw [hform]; simp; omega
    have hq : returnS a b c d (a + 1) b rs rg = ((a + 1 + 1, b, c, d), 0) := by rw [returnS, if_neg (by rw [hbase, hb2]; decide)]
    have C2 := Lib.hid (ret_any a b c d (a + 1) b rs rg ha hb hc hd ha1 hb hrs hrg _ hq)
    have C4 := Lib.hid (refForm_any (a + 1) b rs rg ha1 hb hrs hrg)
    rw [hform] at C4
    clear hb2 hq hbase hform
    by_cases hgd : rg = d
    · have hrc : (rs != c) = true := by simp only [bne_iff_ne]; exact fun h => hne ⟨h, hgd⟩
      have hgd' : (rg != d) = false := by simp [hgd]
      clear hne hgd
      unfold I64 at *
      go_enter Try.func5, Try.ntmps5
      go_wp2_with fail
      go_region
      go_wp2_with fail
      with_reducible refine (C1.out _).mono ?_
      rintro e w1 ⟨rfl, hb1⟩
      obtain ⟨hcc1, hcf1⟩ := below_cells hb1
      have HB1 : Hid (Below w.heap.size w w1) := Below.trans (by (repeat (first | with_reducible exact Below.refl _ _ | with_reducible refine Below.setCell ?_ (by first | (simp; done) | (simp; omega) | omega) _ | with_reducible refine Below.alloc ?_ (by first | (simp; done) | (simp; omega) | omega) _ | with_reducible refine Below.drew ?_))) (hb1.mono (by first | (simp; done) | (simp; omega) | omega))
      have hsz1_0 : w.heap.size < w1.heap.size := by have := hb1.size; first | omega | (simp at this; omega)
      have hsz1_1 : w.heap.size + 1 < w1.heap.size := by have := hb1.size; first | omega | (simp at this; omega)
      have l1_0 : w1.cell? ⟨w.heap.size + 1, 0, none⟩ = some (.int .i64 a) := by rw [hcc1 _ _ (by first | (simp; done) | (simp; omega) | omega)]; first | assumption | go_simp
      have l1_1 : w1.cell? ⟨w.heap.size + 1, 1, none⟩ = some (.int .i64 b) := by rw [hcc1 _ _ (by first | (simp; done) | (simp; omega) | omega)]; first | assumption | go_simp
      have l1_2 : w1.cell? ⟨w.heap.size + 1, 2, none⟩ = some (.int .i64 c) := by rw [hcc1 _ _ (by first | (simp; done) | (simp; omega) | omega)]; first | assumption | go_simp
      have l1_3 : w1.cell? ⟨w.heap.size + 1, 3, none⟩ = some (.int .i64 d) := by rw [hcc1 _ _ (by first | (simp; done) | (simp; omega) | omega)]; first | assumption | go_simp
      go_wp2_with fail
      with_reducible refine (C2.out _).mono ?_
      rintro e w2 ⟨rfl, hb2⟩
      obtain ⟨hcc2, hcf2⟩ := below_cells hb2
      have HB2 : Hid (Below w.heap.size w w2) := Below.trans (by (repeat (first | with_reducible exact Below.refl _ _ | with_reducible exact HB1.out | with_reducible refine Below.setCell ?_ (by first | (simp; done) | (simp; omega) | omega) _ | with_reducible refine Below.alloc ?_ (by first | (simp; done) | (simp; omega) | omega) _ | with_reducible refine Below.drew ?_))) (hb2.mono (by first | (simp; done) | (simp; omega) | omega))
      have hsz2_0 : w.heap.size < w2.heap.size := by have := hb2.size; first | omega | (simp at this; omega)
      have hsz2_1 : w.heap.size + 1 < w2.heap.size := by have := hb2.size; first | omega | (simp at this; omega)
      have hsz2_2 : w1.heap.size < w2.heap.size := by have := hb2.size; first | omega | (simp at this; omega)
      have l2_0 : w2.cell? ⟨w.heap.size + 1, 0, none⟩ = some (.int .i64 a) := by rw [hcc2 _ _ (by first | (simp; done) | (simp; omega) | omega)]; first | assumption | go_simp
      have l2_1 : w2.cell? ⟨w.heap.size + 1, 1, none⟩ = some (.int .i64 b) := by rw [hcc2 _ _ (by first | (simp; done) | (simp; omega) | omega)]; first | assumption | go_simp
      have l2_2 : w2.cell? ⟨w.heap.size + 1, 2, none⟩ = some (.int .i64 c) := by rw [hcc2 _ _ (by first | (simp; done) | (simp; omega) | omega)]; first | assumption | go_simp
      have l2_3 : w2.cell? ⟨w.heap.size + 1, 3, none⟩ = some (.int .i64 d) := by rw [hcc2 _ _ (by first | (simp; done) | (simp; omega) | omega)]; first | assumption | go_simp
      have t2_0 : w2.cell? ⟨w1.heap.size, 0, none⟩ = some (.int .i64 (a + 1)) := by rw [hcc2 _ _ (by first | (simp; done) | (simp; omega) | omega)]; first | assumption | go_simp
      have t2_1 : w2.cell? ⟨w1.heap.size, 1, none⟩ = some (.int .i64 b) := by rw [hcc2 _ _ (by first | (simp; done) | (simp; omega) | omega)]; first | assumption | go_simp
      have t2_2 : w2.cell? ⟨w1.heap.size, 2, none⟩ = some (.int .i64 rs) := by rw [hcc2 _ _ (by first | (simp; done) | (simp; omega) | omega)]; first | assumption | go_simp
      have t2_3 : w2.cell? ⟨w1.heap.size, 3, none⟩ = some (.int .i64 rg) := by rw [hcc2 _ _ (by first | (simp; done) | (simp; omega) | omega)]; first | assumption | go_simp
      go_wp2_with fail
      with_reducible refine (C9.out _).mono ?_
      rintro e w3 ⟨rfl, hb3⟩
      obtain ⟨hcc3, hcf3⟩ := below_cells hb3
      have HB3 : Hid (Below w.heap.size w w3) := Below.trans (by (repeat (first | with_reducible exact Below.refl _ _ | with_reducible exact HB1.out | with_reducible exact HB2.out | with_reducible refine Below.setCell ?_ (by first | (simp; done) | (simp; omega) | omega) _ | with_reducible refine Below.alloc ?_ (by first | (simp; done) | (simp; omega) | omega) _ | with_reducible refine Below.drew ?_))) (hb3.mono (by first | (simp; done) | (simp; omega) | omega))
      have hsz3_0 : w.heap.size < w3.heap.size := by have := hb3.size; first | omega | (simp at this; omega)
      have hsz3_1 : w.heap.size + 1 < w3.heap.size := by have := hb3.size; first | omega | (simp at this; omega)
      have hsz3_2 : w1.heap.size < w3.heap.size := by have := hb3.size; first | omega | (simp at this; omega)
      have hsz3_3 : w2.heap.size < w3.heap.size := by have := hb3.size; first | omega | (simp at this; omega)
      have l3_0 : w3.cell? ⟨w.heap.size + 1, 0, none⟩ = some (.int .i64 a) := by rw [hcc3 _ _ (by first | (simp; done) | (simp; omega) | omega)]; first | assumption | go_simp
      have l3_1 : w3.cell? ⟨w.heap.size + 1, 1, none⟩ = some (.int .i64 b) := by rw [hcc3 _ _ (by first | (simp; done) | (simp; omega) | omega)]; first | assumption | go_simp
      have l3_2 : w3.cell? ⟨w.heap.size + 1, 2, none⟩ = some (.int .i64 c) := by rw [hcc3 _ _ (by first | (simp; done) | (simp; omega) | omega)]; first | assumption | go_simp
      have l3_3 : w3.cell? ⟨w.heap.size + 1, 3, none⟩ = some (.int .i64 d) := by rw [hcc3 _ _ (by first | (simp; done) | (simp; omega) | omega)]; first | assumption | go_simp
      have t3_0 : w3.cell? ⟨w1.heap.size, 0, none⟩ = some (.int .i64 (a + 1)) := by rw [hcc3 _ _ (by first | (simp; done) | (simp; omega) | omega)]; first | assumption | go_simp
      have t3_1 : w3.cell? ⟨w1.heap.size, 1, none⟩ = some (.int .i64 b) := by rw [hcc3 _ _ (by first | (simp; done) | (simp; omega) | omega)]; first | assumption | go_simp
      have t3_2 : w3.cell? ⟨w1.heap.size, 2, none⟩ = some (.int .i64 rs) := by rw [hcc3 _ _ (by first | (simp; done) | (simp; omega) | omega)]; first | assumption | go_simp
      have t3_3 : w3.cell? ⟨w1.heap.size, 3, none⟩ = some (.int .i64 rg) := by rw [hcc3 _ _ (by first | (simp; done) | (simp; omega) | omega)]; first | assumption | go_simp
      have r3_0 : w3.cell? ⟨w2.heap.size, 0, none⟩ = some (.int .i64 (a + 1 + 1)) := by rw [hcc3 _ _ (by first | (simp; done) | (simp; omega) | omega)]; first | assumption | go_simp
      have r3_1 : w3.cell? ⟨w2.heap.size, 1, none⟩ = some (.int .i64 b) := by rw [hcc3 _ _ (by first | (simp; done) | (simp; omega) | omega)]; first | assumption | go_simp
      have r3_2 : w3.cell? ⟨w2.heap.size, 2, none⟩ = some (.int .i64 c) := by rw [hcc3 _ _ (by first | (simp; done) | (simp; omega) | omega)]; first | assumption | go_simp
      have r3_3 : w3.cell? ⟨w2.heap.size, 3, none⟩ = some (.int .i64 d) := by rw [hcc3 _ _ (by first | (simp; done) | (simp; omega) | omega)]; first | assumption | go_simp
      go_wp2_with fail
      with_reducible refine (C4.out _).mono ?_
      rintro e w4 ⟨rfl, hb4⟩
      obtain ⟨hcc4, hcf4⟩ := below_cells hb4
      have HB4 : Hid (Below w.heap.size w w4) := Below.trans (by (repeat (first | with_reducible exact Below.refl _ _ | with_reducible exact HB1.out | with_reducible exact HB2.out | with_reducible exact HB3.out | with_reducible refine Below.setCell ?_ (by first | (simp; done) | (simp; omega) | omega) _ | with_reducible refine Below.alloc ?_ (by first | (simp; done) | (simp; omega) | omega) _ | with_reducible refine Below.drew ?_))) (hb4.mono (by first | (simp; done) | (simp; omega) | omega))
      have hsz4_0 : w.heap.size < w4.heap.size := by have := hb4.size; first | omega | (simp at this; omega)
      have hsz4_1 : w.heap.size + 1 < w4.heap.size := by have := hb4.size; first | omega | (simp at this; omega)
      have hsz4_2 : w1.heap.size < w4.heap.size := by have := hb4.size; first | omega | (simp at this; omega)
      have hsz4_3 : w2.heap.size < w4.heap.size := by have := hb4.size; first | omega | (simp at this; omega)
      have l4_0 : w4.cell? ⟨w.heap.size + 1, 0, none⟩ = some (.int .i64 a) := by rw [hcc4 _ _ (by first | (simp; done) | (simp; omega) | omega)]; first | assumption | go_simp
      have l4_1 : w4.cell? ⟨w.heap.size + 1, 1, none⟩ = some (.int .i64 b) := by rw [hcc4 _ _ (by first | (simp; done) | (simp; omega) | omega)]; first | assumption | go_simp
      have l4_2 : w4.cell? ⟨w.heap.size + 1, 2, none⟩ = some (.int .i64 c) := by rw [hcc4 _ _ (by first | (simp; done) | (simp; omega) | omega)]; first | assumption | go_simp
      have l4_3 : w4.cell? ⟨w.heap.size + 1, 3, none⟩ = some (.int .i64 d) := by rw [hcc4 _ _ (by first | (simp; done) | (simp; omega) | omega)]; first | assumption | go_simp
      have t4_0 : w4.cell? ⟨w1.heap.size, 0, none⟩ = some (.int .i64 (a + 1)) := by rw [hcc4 _ _ (by first | (simp; done) | (simp; omega) | omega)]; first | assumption | go_simp
      have t4_1 : w4.cell? ⟨w1.heap.size, 1, none⟩ = some (.int .i64 b) := by rw [hcc4 _ _ (by first | (simp; done) | (simp; omega) | omega)]; first | assumption | go_simp
      have t4_2 : w4.cell? ⟨w1.heap.size, 2, none⟩ = some (.int .i64 rs) := by rw [hcc4 _ _ (by first | (simp; done) | (simp; omega) | omega)]; first | assumption | go_simp
      have t4_3 : w4.cell? ⟨w1.heap.size, 3, none⟩ = some (.int .i64 rg) := by rw [hcc4 _ _ (by first | (simp; done) | (simp; omega) | omega)]; first | assumption | go_simp
      have r4_0 : w4.cell? ⟨w2.heap.size, 0, none⟩ = some (.int .i64 (a + 1 + 1)) := by rw [hcc4 _ _ (by first | (simp; done) | (simp; omega) | omega)]; first | assumption | go_simp
      have r4_1 : w4.cell? ⟨w2.heap.size, 1, none⟩ = some (.int .i64 b) := by rw [hcc4 _ _ (by first | (simp; done) | (simp; omega) | omega)]; first | assumption | go_simp
      have r4_2 : w4.cell? ⟨w2.heap.size, 2, none⟩ = some (.int .i64 c) := by rw [hcc4 _ _ (by first | (simp; done) | (simp; omega) | omega)]; first | assumption | go_simp
      have r4_3 : w4.cell? ⟨w2.heap.size, 3, none⟩ = some (.int .i64 d) := by rw [hcc4 _ _ (by first | (simp; done) | (simp; omega) | omega)]; first | assumption | go_simp
      go_wp2_with fail
      go_ret
      exact ⟨rfl, by (repeat (first | with_reducible exact Below.refl _ _ | with_reducible exact HB1.out | with_reducible exact HB2.out | with_reducible exact HB3.out | with_reducible exact HB4.out | with_reducible refine Below.setCell ?_ (by first | (simp; done) | (simp; omega) | omega) _ | with_reducible refine Below.alloc ?_ (by first | (simp; done) | (simp; omega) | omega) _ | with_reducible refine Below.drew ?_))⟩
    · have hgd' : (rg != d) = true := by simpa using hgd
      clear hne hgd
      unfold I64 at *
      go_enter Try.func5, Try.ntmps5
      go_wp2_with fail
      go_region
      go_wp2_with fail
      with_reducible refine (C1.out _).mono ?_
      rintro e w1 ⟨rfl, hb1⟩
      obtain ⟨hcc1, hcf1⟩ := below_cells hb1
      have HB1 : Hid (Below w.heap.size w w1) := Below.trans (by (repeat (first | with_reducible exact Below.refl _ _ | with_reducible refine Below.setCell ?_ (by first | (simp; done) | (simp; omega) | omega) _ | with_reducible refine Below.alloc ?_ (by first | (simp; done) | (simp; omega) | omega) _ | with_reducible refine Below.drew ?_))) (hb1.mono (by first | (simp; done) | (simp; omega) | omega))
      have hsz1_0 : w.heap.size < w1.heap.size := by have := hb1.size; first | omega | (simp at this; omega)
      have hsz1_1 : w.heap.size + 1 < w1.heap.size := by have := hb1.size; first | omega | (simp at this; omega)
      have l1_0 : w1.cell? ⟨w.heap.size + 1, 0, none⟩ = some (.int .i64 a) := by rw [hcc1 _ _ (by first | (simp; done) | (simp; omega) | omega)]; first | assumption | go_simp
      have l1_1 : w1.cell? ⟨w.heap.size + 1, 1, none⟩ = some (.int .i64 b) := by rw [hcc1 _ _ (by first | (simp; done) | (simp; omega) | omega)]; first | assumption | go_simp
      have l1_2 : w1.cell? ⟨w.heap.size + 1, 2, none⟩ = some (.int .i64 c) := by rw [hcc1 _ _ (by first | (simp; done) | (simp; omega) | omega)]; first | assumption | go_simp
      have l1_3 : w1.cell? ⟨w.heap.size + 1, 3, none⟩ = some (.int .i64 d) := by rw [hcc1 _ _ (by first | (simp; done) | (simp; omega) | omega)]; first | assumption | go_simp
      go_wp2_with fail
      with_reducible refine (C2.out _).mono ?_
      rintro e w2 ⟨rfl, hb2⟩
      obtain ⟨hcc2, hcf2⟩ := below_cells hb2
      have HB2 : Hid (Below w.heap.size w w2) := Below.trans (by (repeat (first | with_reducible exact Below.refl _ _ | with_reducible exact HB1.out | with_reducible refine Below.setCell ?_ (by first | (simp; done) | (simp; omega) | omega) _ | with_reducible refine Below.alloc ?_ (by first | (simp; done) | (simp; omega) | omega) _ | with_reducible refine Below.drew ?_))) (hb2.mono (by first | (simp; done) | (simp; omega) | omega))
      have hsz2_0 : w.heap.size < w2.heap.size := by have := hb2.size; first | omega | (simp at this; omega)
      have hsz2_1 : w.heap.size + 1 < w2.heap.size := by have := hb2.size; first | omega | (simp at this; omega)
      have hsz2_2 : w1.heap.size < w2.heap.size := by have := hb2.size; first | omega | (simp at this; omega)
      have l2_0 : w2.cell? ⟨w.heap.size + 1, 0, none⟩ = some (.int .i64 a) := by rw [hcc2 _ _ (by first | (simp; done) | (simp; omega) | omega)]; first | assumption | go_simp
      have l2_1 : w2.cell? ⟨w.heap.size + 1, 1, none⟩ = some (.int .i64 b) := by rw [hcc2 _ _ (by first | (simp; done) | (simp; omega) | omega)]; first | assumption | go_simp
      have l2_2 : w2.cell? ⟨w.heap.size + 1, 2, none⟩ = some (.int .i64 c) := by rw [hcc2 _ _ (by first | (simp; done) | (simp; omega) | omega)]; first | assumption | go_simp
      have l2_3 : w2.cell? ⟨w.heap.size + 1, 3, none⟩ = some (.int .i64 d) := by rw [hcc2 _ _ (by first | (simp; done) | (simp; omega) | omega)]; first | assumption | go_simp
      have t2_0 : w2.cell? ⟨w1.heap.size, 0, none⟩ = some (.int .i64 (a + 1)) := by rw [hcc2 _ _ (by first | (simp; done) | (simp; omega) | omega)]; first | assumption | go_simp
      have t2_1 : w2.cell? ⟨w1.heap.size, 1, none⟩ = some (.int .i64 b) := by rw [hcc2 _ _ (by first | (simp; done) | (simp; omega) | omega)]; first | assumption | go_simp
      have t2_2 : w2.cell? ⟨w1.heap.size, 2, none⟩ = some (.int .i64 rs) := by rw [hcc2 _ _ (by first | (simp; done) | (simp; omega) | omega)]; first | assumption | go_simp
      have t2_3 : w2.cell? ⟨w1.heap.size, 3, none⟩ = some (.int .i64 rg) := by rw [hcc2 _ _ (by first | (simp; done) | (simp; omega) | omega)]; first | assumption | go_simp
      go_wp2_with fail
      with_reducible refine (C9.out _).mono ?_
      rintro e w3 ⟨rfl, hb3⟩
      obtain ⟨hcc3, hcf3⟩ := below_cells hb3
      have HB3 : Hid (Below w.heap.size w w3) := Below.trans (by (repeat (first | with_reducible exact Below.refl _ _ | with_reducible exact HB1.out | with_reducible exact HB2.out | with_reducible refine Below.setCell ?_ (by first | (simp; done) | (simp; omega) | omega) _ | with_reducible refine Below.alloc ?_ (by first | (simp; done) | (simp; omega) | omega) _ | with_reducible refine Below.drew ?_))) (hb3.mono (by first | (simp; done) | (simp; omega) | omega))
      have hsz3_0 : w.heap.size < w3.heap.size := by have := hb3.size; first | omega | (simp at this; omega)
      have hsz3_1 : w.heap.size + 1 < w3.heap.size := by have := hb3.size; first | omega | (simp at this; omega)
      have hsz3_2 : w1.heap.size < w3.heap.size := by have := hb3.size; first | omega | (simp at this; omega)
      have hsz3_3 : w2.heap.size < w3.heap.size := by have := hb3.size; first | omega | (simp at this; omega)
      have l3_0 : w3.cell? ⟨w.heap.size + 1, 0, none⟩ = some (.int .i64 a) := by rw [hcc3 _ _ (by first | (simp; done) | (simp; omega) | omega)]; first | assumption | go_simp
      have l3_1 : w3.cell? ⟨w.heap.size + 1, 1, none⟩ = some (.int .i64 b) := by rw [hcc3 _ _ (by first | (simp; done) | (simp; omega) | omega)]; first | assumption | go_simp
      have l3_2 : w3.cell? ⟨w.heap.size + 1, 2, none⟩ = some (.int .i64 c) := by rw [hcc3 _ _ (by first | (simp; done) | (simp; omega) | omega)]; first | assumption | go_simp
      have l3_3 : w3.cell? ⟨w.heap.size + 1, 3, none⟩ = some (.int .i64 d) := by rw [hcc3 _ _ (by first | (simp; done) | (simp; omega) | omega)]; first | assumption | go_simp
      have t3_0 : w3.cell? ⟨w1.heap.size, 0, none⟩ = some (.int .i64 (a + 1)) := by rw [hcc3 _ _ (by first | (simp; done) | (simp; omega) | omega)]; first | assumption | go_simp
      have t3_1 : w3.cell? ⟨w1.heap.size, 1, none⟩ = some (.int .i64 b) := by rw [hcc3 _ _ (by first | (simp; done) | (simp; omega) | omega)]; first | assumption | go_simp
      have t3_2 : w3.cell? ⟨w1.heap.size, 2, none⟩ = some (.int .i64 rs) := by rw [hcc3 _ _ (by first | (simp; done) | (simp; omega) | omega)]; first | assumption | go_simp
      have t3_3 : w3.cell? ⟨w1.heap.size, 3, none⟩ = some (.int .i64 rg) := by rw [hcc3 _ _ (by first | (simp; done) | (simp; omega) | omega)]; first | assumption | go_simp
      have r3_0 : w3.cell? ⟨w2.heap.size, 0, none⟩ = some (.int .i64 (a + 1 + 1)) := by rw [hcc3 _ _ (by first | (simp; done) | (simp; omega) | omega)]; first | assumption | go_simp
      have r3_1 : w3.cell? ⟨w2.heap.size, 1, none⟩ = some (.int .i64 b) := by rw [hcc3 _ _ (by first | (simp; done) | (simp; omega) | omega)]; first | assumption | go_simp
      have r3_2 : w3.cell? ⟨w2.heap.size, 2, none⟩ = some (.int .i64 c) := by rw [hcc3 _ _ (by first | (simp; done) | (simp; omega) | omega)]; first | assumption | go_simp
      have r3_3 : w3.cell? ⟨w2.heap.size, 3, none⟩ = some (.int .i64 d) := by rw [hcc3 _ _ (by first | (simp; done) | (simp; omega) | omega)]; first | assumption | go_simp
      go_wp2_with fail
      with_reducible refine (C4.out _).mono ?_
      rintro e w4 ⟨rfl, hb4⟩
      obtain ⟨hcc4, hcf4⟩ := below_cells hb4
      have HB4 : Hid (Below w.heap.size w w4) := Below.trans (by (repeat (first | with_reducible exact Below.refl _ _ | with_reducible exact HB1.out | with_reducible exact HB2.out | with_reducible exact HB3.out | with_reducible refine Below.setCell ?_ (by first | (simp; done) | (simp; omega) | omega) _ | with_reducible refine Below.alloc ?_ (by first | (simp; done) | (simp; omega) | omega) _ | with_reducible refine Below.drew ?_))) (hb4.mono (by first | (simp; done) | (simp; omega) | omega))
      have hsz4_0 : w.heap.size < w4.heap.size := by have := hb4.size; first | omega | (simp at this; omega)
      have hsz4_1 : w.heap.size + 1 < w4.heap.size := by have := hb4.size; first | omega | (simp at this; omega)
      have hsz4_2 : w1.heap.size < w4.heap.size := by have := hb4.size; first | omega | (simp at this; omega)
      have hsz4_3 : w2.heap.size < w4.heap.size := by have := hb4.size; first | omega | (simp at this; omega)
      have l4_0 : w4.cell? ⟨w.heap.size + 1, 0, none⟩ = some (.int .i64 a) := by rw [hcc4 _ _ (by first | (simp; done) | (simp; omega) | omega)]; first | assumption | go_simp
      have l4_1 : w4.cell? ⟨w.heap.size + 1, 1, none⟩ = some (.int .i64 b) := by rw [hcc4 _ _ (by first | (simp; done) | (simp; omega) | omega)]; first | assumption | go_simp
      have l4_2 : w4.cell? ⟨w.heap.size + 1, 2, none⟩ = some (.int .i64 c) := by rw [hcc4 _ _ (by first | (simp; done) | (simp; omega) | omega)]; first | assumption | go_simp
      have l4_3 : w4.cell? ⟨w.heap.size + 1, 3, none⟩ = some (.int .i64 d) := by rw [hcc4 _ _ (by first | (simp; done) | (simp; omega) | omega)]; first | assumption | go_simp
      have t4_0 : w4.cell? ⟨w1.heap.size, 0, none⟩ = some (.int .i64 (a + 1)) := by rw [hcc4 _ _ (by first | (simp; done) | (simp; omega) | omega)]; first | assumption | go_simp
      have t4_1 : w4.cell? ⟨w1.heap.size, 1, none⟩ = some (.int .i64 b) := by rw [hcc4 _ _ (by first | (simp; done) | (simp; omega) | omega)]; first | assumption | go_simp
      have t4_2 : w4.cell? ⟨w1.heap.size, 2, none⟩ = some (.int .i64 rs) := by rw [hcc4 _ _ (by first | (simp; done) | (simp; omega) | omega)]; first | assumption | go_simp
      have t4_3 : w4.cell? ⟨w1.heap.size, 3, none⟩ = some (.int .i64 rg) := by rw [hcc4 _ _ (by first | (simp; done) | (simp; omega) | omega)]; first | assumption | go_simp
      have r4_0 : w4.cell? ⟨w2.heap.size, 0, none⟩ = some (.int .i64 (a + 1 + 1)) := by rw [hcc4 _ _ (by first | (simp; done) | (simp; omega) | omega)]; first | assumption | go_simp
      have r4_1 : w4.cell? ⟨w2.heap.size, 1, none⟩ = some (.int .i64 b) := by rw [hcc4 _ _ (by first | (simp; done) | (simp; omega) | omega)]; first | assumption | go_simp
      have r4_2 : w4.cell? ⟨w2.heap.size, 2, none⟩ = some (.int .i64 c) := by rw [hcc4 _ _ (by first | (simp; done) | (simp; omega) | omega)]; first | assumption | go_simp
      have r4_3 : w4.cell? ⟨w2.heap.size, 3, none⟩ = some (.int .i64 d) := by rw [hcc4 _ _ (by first | (simp; done) | (simp; omega) | omega)]; first | assumption | go_simp
      go_wp2_with fail
      go_ret
      exact ⟨rfl, by (repeat (first | with_reducible exact Below.refl _ _ | with_reducible exact HB1.out | with_reducible exact HB2.out | with_reducible exact HB3.out | with_reducible exact HB4.out | with_reducible refine Below.setCell ?_ (by first | (simp; done) | (simp; omega) | omega) _ | with_reducible refine Below.alloc ?_ (by first | (simp; done) | (simp; omega) | omega) _ | with_reducible refine Below.drew ?_))⟩
  · obtain rfl : a = 4294967293 := by omega
    have hb2 : baseB (4294967293 + 1) b rs rg = false := by unfold baseB; simp
    have hq : returnS 4294967293 b c d (4294967293 + 1) b rs rg = ((0, 0, 0, 0), 4) := by rw [returnS, if_pos (.inr hb2)]
    have C2 := Lib.hid (ret_any 4294967293 b c d (4294967293 + 1) b rs rg ha hb hc hd ha1 hb hrs hrg _ hq)
    clear hb2 hq hbase hform hne
    simp only [show (4294967293 : Int) + 1 = 4294967294 from rfl] at C1 C2
    unfold I64 at *
    go_enter Try.func5, Try.ntmps5
    go_wp2_with fail
    go_region
    go_wp2_with fail
    with_reducible refine (C1.out _).mono ?_
    rintro e w1 ⟨rfl, hb1⟩
    obtain ⟨hcc1, hcf1⟩ := below_cells hb1
    have HB1 : Hid (Below w.heap.size w w1) := Below.trans (by (repeat (first | with_reducible exact Below.refl _ _ | with_reducible refine Below.setCell ?_ (by first | (simp; done) | (simp; omega) | omega) _ | with_reducible refine Below.alloc ?_ (by first | (simp; done) | (simp; omega) | omega) _ | with_reducible refine Below.drew ?_))) (hb1.mono (by first | (simp; done) | (simp; omega) | omega))
    have hsz1_0 : w.heap.size < w1.heap.size := by have := hb1.size; first | omega | (simp at this; omega)
    have hsz1_1 : w.heap.size + 1 < w1.heap.size := by have := hb1.size; first | omega | (simp at this; omega)
    have l1_0 : w1.cell? ⟨w.heap.size + 1, 0, none⟩ = some (.int .i64 4294967293) := by rw [hcc1 _ _ (by first | (simp; done) | (simp; omega) | omega)]; first | assumption | go_simp
    have l1_1 : w1.cell? ⟨w.heap.size + 1, 1, none⟩ = some (.int .i64 b) := by rw [hcc1 _ _ (by first | (simp; done) | (simp; omega) | omega)]; first | assumption | go_simp
    have l1_2 : w1.cell? ⟨w.heap.size + 1, 2, none⟩ = some (.int .i64 c) := by rw [hcc1 _ _ (by first | (simp; done) | (simp; omega) | omega)]; first | assumption | go_simp
    have l1_3 : w1.cell? ⟨w.heap.size + 1, 3, none⟩ = some (.int .i64 d) := by rw [hcc1 _ _ (by first | (simp; done) | (simp; omega) | omega)]; first | assumption | go_simp
    go_wp2_with fail
    with_reducible refine (C2.out _).mono ?_
    rintro e w2 ⟨rfl, hb2⟩
    obtain ⟨hcc2, hcf2⟩ := below_cells hb2
    have HB2 : Hid (Below w.heap.size w w2) := Below.trans (by (repeat (first | with_reducible exact Below.refl _ _ | with_reducible exact HB1.out | with_reducible refine Below.setCell ?_ (by first | (simp; done) | (simp; omega) | omega) _ | with_reducible refine Below.alloc ?_ (by first | (simp; done) | (simp; omega) | omega) _ | with_reducible refine Below.drew ?_))) (hb2.mono (by first | (simp; done) | (simp; omega) | omega))
    have hsz2_0 : w.heap.size < w2.heap.size := by have := hb2.size; first | omega | (simp at this; omega)
    have hsz2_1 : w.heap.size + 1 < w2.heap.size := by have := hb2.size; first | omega | (simp at this; omega)
    have hsz2_2 : w1.heap.size < w2.heap.size := by have := hb2.size; first | omega | (simp at this; omega)
    have l2_0 : w2.cell? ⟨w.heap.size + 1, 0, none⟩ = some (.int .i64 4294967293) := by rw [hcc2 _ _ (by first | (simp; done) | (simp; omega) | omega)]; first | assumption | go_simp
    have l2_1 : w2.cell? ⟨w.heap.size + 1, 1, none⟩ = some (.int .i64 b) := by rw [hcc2 _ _ (by first | (simp; done) | (simp; omega) | omega)]; first | assumption | go_simp
    have l2_2 : w2.cell? ⟨w.heap.size + 1, 2, none⟩ = some (.int .i64 c) := by rw [hcc2 _ _ (by first | (simp; done) | (simp; omega) | omega)]; first | assumption | go_simp
    have l2_3 : w2.cell? ⟨w.heap.size + 1, 3, none⟩ = some (.int .i64 d) := by rw [hcc2 _ _ (by first | (simp; done) | (simp; omega) | omega)]; first | assumption | go_simp
    have t2_0 : w2.cell? ⟨w1.heap.size, 0, none⟩ = some (.int .i64 4294967294) := by rw [hcc2 _ _ (by first | (simp; done) | (simp; omega) | omega)]; first | assumption | go_simp
    have t2_1 : w2.cell? ⟨w1.heap.size, 1, none⟩ = some (.int .i64 b) := by rw [hcc2 _ _ (by first | (simp; done) | (simp; omega) | omega)]; first | assumption | go_simp
    have t2_2 : w2.cell? ⟨w1.heap.size, 2, none⟩ = some (.int .i64 rs) := by rw [hcc2 _ _ (by first | (simp; done) | (simp; omega) | omega)]; first | assumption | go_simp
    have t2_3 : w2.cell? ⟨w1.heap.size, 3, none⟩ = some (.int .i64 rg) := by rw [hcc2 _ _ (by first | (simp; done) | (simp; omega) | omega)]; first | assumption | go_simp
    go_wp2_with fail
    with_reducible refine (C9.out _).mono ?_
    rintro e w3 ⟨rfl, hb3⟩
    obtain ⟨hcc3, hcf3⟩ := below_cells hb3
    have HB3 : Hid (Below w.heap.size w w3) := Below.trans (by (repeat (first | with_reducible exact Below.refl _ _ | with_reducible exact HB1.out | with_reducible exact HB2.out | with_reducible refine Below.setCell ?_ (by first | (simp; done) | (simp; omega) | omega) _ | with_reducible refine Below.alloc ?_ (by first | (simp; done) | (simp; omega) | omega) _ | with_reducible refine Below.drew ?_))) (hb3.mono (by first | (simp; done) | (simp; omega) | omega))
    have hsz3_0 : w.heap.size < w3.heap.size := by have := hb3.size; first | omega | (simp at this; omega)
    have hsz3_1 : w.heap.size + 1 < w3.heap.size := by have := hb3.size; first | omega | (simp at this; omega)
    have hsz3_2 : w1.heap.size < w3.heap.size := by have := hb3.size; first | omega | (simp at this; omega)
    have hsz3_3 : w2.heap.size < w3.heap.size := by have := hb3.size; first | omega | (simp at this; omega)
    go_wp2_with fail
    go_ret
    exact ⟨rfl, by (repeat (first | with_reducible exact Below.refl _ _ | with_reducible exact HB1.out | with_reducible exact HB2.out | with_reducible exact HB3.out | with_reducible refine Below.setCell ?_ (by first | (simp; done) | (simp; omega) | omega) _ | with_reducible refine Below.alloc ?_ (by first | (simp; done) | (simp; omega) | omega) _ | with_reducible refine Below.drew ?_))⟩
end Go.Proofs.Ytmbelomekihdkaa
