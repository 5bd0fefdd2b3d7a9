/- The walk of the law HeaderOther: another sector, equal headers. -/
import Derived.Test.YtepbchaeeldjmaaDoorHeaderLaw3
namespace Go.Proofs.YtepbchaeeldjmaaDoor
open Go.RowKit

set_option maxRecDepth 100000 in
set_option maxHeartbeats 4000000 in
theorem other_10 (a b c d e f s t : Int) (w : World) (HT : Hid (∀ w', Below w.heap.size w w' → TabAt w' ∧ 0 < w'.heap.size)) (fa fb : List UInt8) (hst : ¬ s = t) (HEA : Hid (hencS (a, b, c, d, e, f) s = (fa, 0))) (HEB : Hid (hencS (a, b, c, d, e, f) s = (fb, 0))) (HD : Hid (hdec t fa = none)) (HFA : Hid (fa.length = 64)) (HFB : Hid (fb.length = 64)) (HDE : Hid (decide (fa = fb) = true)) :
    Calls Tryd.prog 11 #[.agg #[.int .i64 a, .int .i64 b, .int .i64 c, .int .i64 d, .int .i64 e, .int .i64 f, .int .i64 a, .int .i64 b, .int .i64 c, .int .i64 d, .int .i64 e, .int .i64 f, .int .i64 s, .int .i64 t]] w fun en w' => en = .returned (.bool true) ∧ Below w.heap.size w w' := by
  have H0 := Lib.hid (other_pre0 a b c d e f a b c d e f w)
  have H1 := Lib.hid (other_pre1 a b c d e f a b c d e f w)
  go_enter Tryd.func11, Tryd.ntmps11
  go_wp2_with fail
  go_region
  · go_wp2_with fail
    refine (hencode_any a b c d e f s _ (HT.out _ (H0.out _).1).1 (HT.out _ (H0.out _).1).2 (fa, 0) HEA.out).mono ?_
    rintro en w1 ⟨A1, c1, rfl, hown, hbel⟩
    have HB1 : Hid (Below w.heap.size w w1) := (H0.out _).1.trans (hbel.mono (H0.out _).1.size)
    have HX1 : Hid (Box6 w1 (w.heap.size + 1) a b c d e f) := (H0.out _).2.1.below (B := w.heap.size + 1 + 1 + 1) (hbel.mono (by simp)) (by omega)
    have HZ1 : Hid (Box6 w1 (w.heap.size + 1 + 1) a b c d e f) := (H0.out _).2.2.below (B := w.heap.size + 1 + 1 + 1) (hbel.mono (by simp)) (by omega)
    have hw1 : w.heap.size + 1 + 1 < w1.heap.size := by have := hbel.size; simp at this; omega
    obtain ⟨m0, m1, m2, m3, m4, m5⟩ := HZ1.out
    simp only [HFA.out] at hown ⊢
    obtain ⟨g, rfl⟩ := hown.head (by decide)
    obtain ⟨_, _, hv, hc1, hc2⟩ := hown.form
    injection hv with hv1 hv2 hv3
    subst hv3
    have HO1 := Lib.hid (hown.mono (base' := w.heap.size + 1 + 1 + 1) (by simp))
    clear hown hbel hv1 hv2
    go_wp2_with fail
    refine (hencode_any a b c d e f s w1 (HT.out _ HB1.out).1 (HT.out _ HB1.out).2 (fb, 0) HEB.out).mono ?_
    rintro en w2 ⟨A2, c2, rfl, hown, hbel⟩
    have HB2 : Hid (Below w.heap.size w w2) := HB1.out.trans (hbel.mono HB1.out.size)
    have HX2 : Hid (Box6 w2 (w.heap.size + 1) a b c d e f) := HX1.out.below hbel (by omega)
    have HZ2 : Hid (Box6 w2 (w.heap.size + 1 + 1) a b c d e f) := HZ1.out.below hbel (by omega)
    have hw2 : w.heap.size + 1 + 1 < w2.heap.size := Nat.lt_of_lt_of_le hw1 hbel.size
    clear m0 m1 m2 m3 m4 m5
    simp only [HFB.out] at hown ⊢
    have HO2 := Lib.hid (HO1.out.keep hbel)
    have HP2 := Lib.hid (hown.mono (base' := w.heap.size + 1 + 1 + 1) (by omega))
    clear hown hbel
    go_wp2_with fail
    refine (hdecode_any t fa (some ⟨g, 0, none⟩) 64 c1 w2.heap.size w2 (HT.out _ HB2.out).1 (HT.out _ HB2.out).2 HO2.out.byt hc1 hc2 (Nat.le_refl _) _ HD.out).mono ?_
    rintro en w3 ⟨rfl, hbel⟩
    have HB3 : Hid (Below w.heap.size w w3) := HB2.out.trans (hbel.mono HB2.out.size)
    have HX3 := Lib.hid (HX2.out.below hbel (by omega))
    have HZ3 := Lib.hid (HZ2.out.below hbel (by omega))
    have hw3 : w.heap.size + 1 + 1 < w3.heap.size := Nat.lt_of_lt_of_le hw2 hbel.size
    have HO3 := Lib.hid (HO2.out.keep hbel)
    have HP3 := Lib.hid (HP2.out.keep hbel)
    simp only [Option.getD_none, Option.isSome_none, hagg]
    clear hbel hw1 hw2 HB1 HB2 HX1 HZ1 HX2 HZ2 HO1 HO2 HP2 H0 H1 HEA HEB HD
    go_wp2_with fail
    have HB4 : Hid (Below w.heap.size w (w3.alloc (.cells #[.int .i64 0, .int .i64 0, .int .i64 0, .int .i64 0, .int .i64 0, .int .i64 0] 41)).drew) := Below.drew (HB3.out.alloc HB3.out.size _)
    have HS4 : Hid (Below w3.heap.size w3 (w3.alloc (.cells #[.int .i64 0, .int .i64 0, .int .i64 0, .int .i64 0, .int .i64 0, .int .i64 0] 41)).drew) := Below.drew ((Below.refl _ _).alloc (Nat.le_refl _) _)
    have HX4 := Lib.hid (HX3.out.below HS4.out (by omega))
    have HZ4 := Lib.hid (HZ3.out.below HS4.out (by omega))
    have HO4 := Lib.hid (HO3.out.keep HS4.out)
    have HP4 := Lib.hid (HP3.out.keep HS4.out)
    have hstb : (s == t) = false := beq_eq_false_iff_ne.2 hst
    obtain ⟨l0, l1, l2, l3, l4, l5⟩ : Box6 w3 (w.heap.size + 1) a b c d e f := HX3.out
    obtain ⟨m0, m1, m2, m3, m4, m5⟩ : Box6 w3 (w.heap.size + 1 + 1) a b c d e f := HZ3.out
    go_region_held3 (fun w' => w'.cell? ⟨w.heap.size + 1, 0, none⟩ = some (.int .i64 a) ∧ w'.cell? ⟨w.heap.size + 1, 1, none⟩ = some (.int .i64 b) ∧ w'.cell? ⟨w.heap.size + 1, 2, none⟩ = some (.int .i64 c) ∧ w'.cell? ⟨w.heap.size + 1, 3, none⟩ = some (.int .i64 d) ∧ w'.cell? ⟨w.heap.size + 1, 4, none⟩ = some (.int .i64 e) ∧ w'.cell? ⟨w.heap.size + 1, 5, none⟩ = some (.int .i64 f) ∧ w'.cell? ⟨w.heap.size + 1 + 1, 0, none⟩ = some (.int .i64 a) ∧ w'.cell? ⟨w.heap.size + 1 + 1, 1, none⟩ = some (.int .i64 b) ∧ w'.cell? ⟨w.heap.size + 1 + 1, 2, none⟩ = some (.int .i64 c) ∧ w'.cell? ⟨w.heap.size + 1 + 1, 3, none⟩ = some (.int .i64 d) ∧ w'.cell? ⟨w.heap.size + 1 + 1, 4, none⟩ = some (.int .i64 e) ∧ w'.cell? ⟨w.heap.size + 1 + 1, 5, none⟩ = some (.int .i64 f)) (go_keep) (first
      | (go_at_call 19; refine (headerAwake_any _ ?_ ?_).mono ?_; exact (HT.out _ HB4.out).1; exact (HT.out _ HB4.out).2; rintro en w5 ⟨rfl, hbel⟩; have HB5 : Hid (Below w.heap.size w w5) := HB4.out.trans (hbel.mono HB4.out.size); obtain ⟨l0, l1, l2, l3, l4, l5⟩ := HX4.out.below hbel (by simp; omega); obtain ⟨m0, m1, m2, m3, m4, m5⟩ := HZ4.out.below hbel (by simp; omega); have HO5 := Lib.hid (HO4.out.keep hbel); have HP5 := Lib.hid (HP4.out.keep hbel); clear hbel)
      | (go_at_call 15; refine (eq_any fa fb _ _ 64 64 c1 c2 _ _ w5 HO5.out.byt HP5.out.byt (by decide) (by decide)).mono ?_; rintro en w6 ⟨rfl, qq, rfl⟩; rw [HDE.out]))
    all_goals (try go_wp2)
    all_goals (go_ret; exact ⟨by first | rfl | simp, ofDrewN HB5.out _⟩)
  · go_wp2_with fail
    refine (hencode_any a b c d e f s _ (HT.out _ (H1.out _).1).1 (HT.out _ (H1.out _).1).2 (fa, 0) HEA.out).mono ?_
    rintro en w1 ⟨A1, c1, rfl, hown, hbel⟩
    have HB1 : Hid (Below w.heap.size w w1) := (H1.out _).1.trans (hbel.mono (H1.out _).1.size)
    have HX1 : Hid (Box6 w1 (w.heap.size + 1 + 1) a b c d e f) := (H1.out _).2.1.below (B := w.heap.size + 1 + 1 + 1) (hbel.mono (by simp)) (by omega)
    have HZ1 : Hid (Box6 w1 (w.heap.size + 1) a b c d e f) := (H1.out _).2.2.below (B := w.heap.size + 1 + 1 + 1) (hbel.mono (by simp)) (by omega)
    have hw1 : w.heap.size + 1 + 1 < w1.heap.size := by have := hbel.size; simp at this; omega
    obtain ⟨m0, m1, m2, m3, m4, m5⟩ := HZ1.out
    simp only [HFA.out] at hown ⊢
    obtain ⟨g, rfl⟩ := hown.head (by decide)
    obtain ⟨_, _, hv, hc1, hc2⟩ := hown.form
    injection hv with hv1 hv2 hv3
    subst hv3
    have HO1 := Lib.hid (hown.mono (base' := w.heap.size + 1 + 1 + 1) (by simp))
    clear hown hbel hv1 hv2
    go_wp2_with fail
    refine (hencode_any a b c d e f s w1 (HT.out _ HB1.out).1 (HT.out _ HB1.out).2 (fb, 0) HEB.out).mono ?_
    rintro en w2 ⟨A2, c2, rfl, hown, hbel⟩
    have HB2 : Hid (Below w.heap.size w w2) := HB1.out.trans (hbel.mono HB1.out.size)
    have HX2 : Hid (Box6 w2 (w.heap.size + 1 + 1) a b c d e f) := HX1.out.below hbel (by omega)
    have HZ2 : Hid (Box6 w2 (w.heap.size + 1) a b c d e f) := HZ1.out.below hbel (by omega)
    have hw2 : w.heap.size + 1 + 1 < w2.heap.size := Nat.lt_of_lt_of_le hw1 hbel.size
    clear m0 m1 m2 m3 m4 m5
    simp only [HFB.out] at hown ⊢
    have HO2 := Lib.hid (HO1.out.keep hbel)
    have HP2 := Lib.hid (hown.mono (base' := w.heap.size + 1 + 1 + 1) (by omega))
    clear hown hbel
    go_wp2_with fail
    refine (hdecode_any t fa (some ⟨g, 0, none⟩) 64 c1 w2.heap.size w2 (HT.out _ HB2.out).1 (HT.out _ HB2.out).2 HO2.out.byt hc1 hc2 (Nat.le_refl _) _ HD.out).mono ?_
    rintro en w3 ⟨rfl, hbel⟩
    have HB3 : Hid (Below w.heap.size w w3) := HB2.out.trans (hbel.mono HB2.out.size)
    have HX3 := Lib.hid (HX2.out.below hbel (by omega))
    have HZ3 := Lib.hid (HZ2.out.below hbel (by omega))
    have hw3 : w.heap.size + 1 + 1 < w3.heap.size := Nat.lt_of_lt_of_le hw2 hbel.size
    have HO3 := Lib.hid (HO2.out.keep hbel)
    have HP3 := Lib.hid (HP2.out.keep hbel)
    simp only [Option.getD_none, Option.isSome_none, hagg]
    clear hbel hw1 hw2 HB1 HB2 HX1 HZ1 HX2 HZ2 HO1 HO2 HP2 H0 H1 HEA HEB HD
    go_wp2_with fail
    have HB4 : Hid (Below w.heap.size w (w3.alloc (.cells #[.int .i64 0, .int .i64 0, .int .i64 0, .int .i64 0, .int .i64 0, .int .i64 0] 41)).drew) := Below.drew (HB3.out.alloc HB3.out.size _)
    have HS4 : Hid (Below w3.heap.size w3 (w3.alloc (.cells #[.int .i64 0, .int .i64 0, .int .i64 0, .int .i64 0, .int .i64 0, .int .i64 0] 41)).drew) := Below.drew ((Below.refl _ _).alloc (Nat.le_refl _) _)
    have HX4 := Lib.hid (HX3.out.below HS4.out (by omega))
    have HZ4 := Lib.hid (HZ3.out.below HS4.out (by omega))
    have HO4 := Lib.hid (HO3.out.keep HS4.out)
    have HP4 := Lib.hid (HP3.out.keep HS4.out)
    have hstb : (s == t) = false := beq_eq_false_iff_ne.2 hst
    obtain ⟨l0, l1, l2, l3, l4, l5⟩ : Box6 w3 (w.heap.size + 1 + 1) a b c d e f := HX3.out
    obtain ⟨m0, m1, m2, m3, m4, m5⟩ : Box6 w3 (w.heap.size + 1) a b c d e f := HZ3.out
    go_region_held3 (fun w' => w'.cell? ⟨w.heap.size + 1 + 1, 0, none⟩ = some (.int .i64 a) ∧ w'.cell? ⟨w.heap.size + 1 + 1, 1, none⟩ = some (.int .i64 b) ∧ w'.cell? ⟨w.heap.size + 1 + 1, 2, none⟩ = some (.int .i64 c) ∧ w'.cell? ⟨w.heap.size + 1 + 1, 3, none⟩ = some (.int .i64 d) ∧ w'.cell? ⟨w.heap.size + 1 + 1, 4, none⟩ = some (.int .i64 e) ∧ w'.cell? ⟨w.heap.size + 1 + 1, 5, none⟩ = some (.int .i64 f) ∧ w'.cell? ⟨w.heap.size + 1, 0, none⟩ = some (.int .i64 a) ∧ w'.cell? ⟨w.heap.size + 1, 1, none⟩ = some (.int .i64 b) ∧ w'.cell? ⟨w.heap.size + 1, 2, none⟩ = some (.int .i64 c) ∧ w'.cell? ⟨w.heap.size + 1, 3, none⟩ = some (.int .i64 d) ∧ w'.cell? ⟨w.heap.size + 1, 4, none⟩ = some (.int .i64 e) ∧ w'.cell? ⟨w.heap.size + 1, 5, none⟩ = some (.int .i64 f)) (go_keep) (first
      | (go_at_call 19; refine (headerAwake_any _ ?_ ?_).mono ?_; exact (HT.out _ HB4.out).1; exact (HT.out _ HB4.out).2; rintro en w5 ⟨rfl, hbel⟩; have HB5 : Hid (Below w.heap.size w w5) := HB4.out.trans (hbel.mono HB4.out.size); obtain ⟨l0, l1, l2, l3, l4, l5⟩ := HX4.out.below hbel (by simp; omega); obtain ⟨m0, m1, m2, m3, m4, m5⟩ := HZ4.out.below hbel (by simp; omega); have HO5 := Lib.hid (HO4.out.keep hbel); have HP5 := Lib.hid (HP4.out.keep hbel); clear hbel)
      | (go_at_call 15; refine (eq_any fa fb _ _ 64 64 c1 c2 _ _ w5 HO5.out.byt HP5.out.byt (by decide) (by decide)).mono ?_; rintro en w6 ⟨rfl, qq, rfl⟩; rw [HDE.out]))
    all_goals (try go_wp2)
    all_goals (go_ret; exact ⟨by first | rfl | simp, ofDrewN HB5.out _⟩)

end Go.Proofs.YtepbchaeeldjmaaDoor
