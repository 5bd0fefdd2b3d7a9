/- The walk of the law HeaderEncode. -/
import Derived.Test.YtepbchaeeldjmaaDoorHeaderLaw
namespace Go.Proofs.YtepbchaeeldjmaaDoor
open Go.RowKit

set_option maxHeartbeats 4000000 in
theorem headerEncode_any (a b c d e f t : Int) (w : World) (ht : TabAt w) (h0 : 0 < w.heap.size) :
    Calls Tryd.prog 8 #[.agg #[.int .i64 a, .int .i64 b, .int .i64 c, .int .i64 d, .int .i64 e, .int .i64 f], .int .i64 t] w fun e' w' => e' = .returned (.bool true) ∧ Below w.heap.size w w' := by
  have HT : Hid (∀ w', Below w.heap.size w w' → TabAt w' ∧ 0 < w'.heap.size) := fun w' hw => ⟨ht.below hw h0, Nat.lt_of_lt_of_le h0 hw.size⟩
  have HB0 : Hid (Below w.heap.size w (w.alloc (.cells #[.int .i64 a, .int .i64 b, .int .i64 c, .int .i64 d, .int .i64 e, .int .i64 f] 41))) := (Below.refl _ _).alloc (Nat.le_refl _) _
  have HX0 := Lib.hid (Box6.new w 41 a b c d e f)
  clear ht h0
  cases hv : hvalid (a, b, c, d, e, f)
  · have HE := Lib.hid (hencS_bad (t := t) hv)
    have HV := Lib.hid hv
    clear hv
    go_enter Tryd.func8, Tryd.ntmps8
    go_wp2_with fail
    refine (hencode_any a b c d e f t _ (HT.out _ HB0.out).1 (HT.out _ HB0.out).2 ([], 4) HE.out).mono ?_
    rintro e' w1 ⟨A1, c1, rfl, hown, hbel⟩
    have HB1 : Hid (Below w.heap.size w w1) := HB0.out.trans (hbel.mono HB0.out.size)
    have HX1 : Hid (Box6 w1 w.heap.size a b c d e f) := HX0.out.below (B := w.heap.size + 1) (hbel.mono (by simp)) (by omega)
    have hw1 : w.heap.size < w1.heap.size := by have := hbel.size; simp at this; omega
    obtain ⟨l0, l1, l2, l3, l4, l5⟩ := HX1.out
    clear hown hbel
    go_wp2_with fail
    refine (refHvalid_any a b c d e f false HV.out _).mono ?_
    rintro e' w2 ⟨rfl, hbel⟩
    have HB2 : Hid (Below w.heap.size w w2) := HB1.out.trans (hbel.mono HB1.out.size)
    have HX2 : Hid (Box6 w2 w.heap.size a b c d e f) := HX1.out.below hbel hw1
    have hw2 : w.heap.size < w2.heap.size := Nat.lt_of_lt_of_le hw1 hbel.size
    clear hbel l0 l1 l2 l3 l4 l5
    go_wp2_with fail
    refine (headerAwake_any _ (HT.out _ HB2.out).1 (HT.out _ HB2.out).2).mono ?_
    rintro e' w3 ⟨rfl, hbel⟩
    have HB3 : Hid (Below w.heap.size w w3) := HB2.out.trans (hbel.mono HB2.out.size)
    clear hbel
    go_wp2
    go_ret
    exact ⟨rfl, HB3.out⟩
  · have HV := Lib.hid hv
    cases hm : may 1 0 t
    · have HE := Lib.hid (hencS_range hv hm)
      have htt : t < 0 ∨ 1048576 ≤ t := by have := may_iff 1 0 t; rw [hm] at this; simp at this; omega
      clear hv hm
      rcases htt with htt | htt
      all_goals
        go_enter Tryd.func8, Tryd.ntmps8
        go_wp2_with fail
        refine (hencode_any a b c d e f t _ (HT.out _ HB0.out).1 (HT.out _ HB0.out).2 ([], 2) HE.out).mono ?_
        rintro e' w1 ⟨A1, c1, rfl, hown, hbel⟩
        have HB1 : Hid (Below w.heap.size w w1) := HB0.out.trans (hbel.mono HB0.out.size)
        have HX1 : Hid (Box6 w1 w.heap.size a b c d e f) := HX0.out.below (B := w.heap.size + 1) (hbel.mono (by simp)) (by omega)
        have hw1 : w.heap.size < w1.heap.size := by have := hbel.size; simp at this; omega
        obtain ⟨l0, l1, l2, l3, l4, l5⟩ := HX1.out
        clear hown hbel
        go_wp2_with fail
        refine (refHvalid_any a b c d e f true HV.out _).mono ?_
        rintro e' w2 ⟨rfl, hbel⟩
        have HB2 : Hid (Below w.heap.size w w2) := HB1.out.trans (hbel.mono HB1.out.size)
        have HX2 : Hid (Box6 w2 w.heap.size a b c d e f) := HX1.out.below hbel hw1
        have hw2 : w.heap.size < w2.heap.size := Nat.lt_of_lt_of_le hw1 hbel.size
        clear hbel l0 l1 l2 l3 l4 l5
        go_wp2_with fail
        refine (headerAwake_any _ (HT.out _ HB2.out).1 (HT.out _ HB2.out).2).mono ?_
        rintro e' w3 ⟨rfl, hbel⟩
        have HB3 : Hid (Below w.heap.size w w3) := HB2.out.trans (hbel.mono HB2.out.size)
        clear hbel
        go_wp2
        go_ret
        exact ⟨rfl, HB3.out⟩
    · have HE := Lib.hid (hencS_ok hv hm)
      have HD := Lib.hid (hdec_enc hv hm)
      have HFL := Lib.hid (hencF_len (a, b, c, d, e, f) t)
      have htl : 0 ≤ t ∧ t < 1048576 := by have := (may_iff 1 0 t).1 hm; omega
      obtain ⟨htl0, htl1⟩ := htl
      obtain ⟨fr, hfr⟩ : ∃ fr, hencF (a, b, c, d, e, f) t = fr := ⟨_, rfl⟩
      have HFR := Lib.hid hfr
      rw [hfr] at HE HD HFL
      clear hv hm hfr
      go_enter Tryd.func8, Tryd.ntmps8
      go_wp2_with fail
      refine (hencode_any a b c d e f t _ (HT.out _ HB0.out).1 (HT.out _ HB0.out).2 (fr, 0) HE.out).mono ?_
      rintro e' w1 ⟨A1, c1, rfl, hown, hbel⟩
      have HB1 : Hid (Below w.heap.size w w1) := HB0.out.trans (hbel.mono HB0.out.size)
      have HX1 : Hid (Box6 w1 w.heap.size a b c d e f) := HX0.out.below (B := w.heap.size + 1) (hbel.mono (by simp)) (by omega)
      have hw1 : w.heap.size < w1.heap.size := by have := hbel.size; simp at this; omega
      obtain ⟨l0, l1, l2, l3, l4, l5⟩ := HX1.out
      simp only [HFL.out] at hown ⊢
      obtain ⟨g, rfl⟩ := hown.head (by decide)
      obtain ⟨_, _, hv, hc1, hc2⟩ := hown.form
      injection hv with hv1 hv2 hv3
      subst hv3
      have HO1 := Lib.hid (hown.mono (base' := w.heap.size + 1) (by simp))
      clear hown hbel hv1 hv2
      go_wp2_with fail
      refine (refHvalid_any a b c d e f true HV.out _).mono ?_
      rintro e' w2 ⟨rfl, hbel⟩
      have HB2 : Hid (Below w.heap.size w w2) := HB1.out.trans (hbel.mono HB1.out.size)
      have HX2 : Hid (Box6 w2 w.heap.size a b c d e f) := HX1.out.below hbel hw1
      have hw2 : w.heap.size < w2.heap.size := Nat.lt_of_lt_of_le hw1 hbel.size
      have HO2 := Lib.hid (HO1.out.keep hbel)
      clear hbel l0 l1 l2 l3 l4 l5
      go_wp2_with fail
      refine (hdecode_any t fr (some ⟨g, 0, none⟩) 64 c1 w2.heap.size w2 (HT.out _ HB2.out).1 (HT.out _ HB2.out).2 HO2.out.byt hc1 hc2 (Nat.le_refl _) _ HD.out).mono ?_
      rintro e' w3 ⟨rfl, hbel⟩
      have HB3 : Hid (Below w.heap.size w w3) := HB2.out.trans (hbel.mono HB2.out.size)
      have HX3 : Hid (Box6 w3 w.heap.size a b c d e f) := HX2.out.below hbel hw2
      have hw3 : w.heap.size < w3.heap.size := Nat.lt_of_lt_of_le hw2 hbel.size
      have HO3 := Lib.hid (HO2.out.keep hbel)
      simp only [Option.getD_some, Option.isSome_some, hagg]
      clear hbel
      go_wp2_with fail
      have HB4 := Lib.hid (HB3.out.alloc HB3.out.size (.cells #[.int .i64 a, .int .i64 b, .int .i64 c, .int .i64 d, .int .i64 e, .int .i64 f] 41))
      have HX4 := Lib.hid (HX3.out.below ((Below.refl w3.heap.size w3).alloc (Nat.le_refl _) (.cells #[.int .i64 a, .int .i64 b, .int .i64 c, .int .i64 d, .int .i64 e, .int .i64 f] 41)) hw3)
      have HZ4 := Lib.hid (Box6.new w3 41 a b c d e f)
      have HO4 := Lib.hid (HO3.out.keep ((Below.refl w3.heap.size w3).alloc (Nat.le_refl _) (.cells #[.int .i64 a, .int .i64 b, .int .i64 c, .int .i64 d, .int .i64 e, .int .i64 f] 41)))
      refine (headerAwake_any _ (HT.out _ HB4.out).1 (HT.out _ HB4.out).2).mono ?_
      rintro e' w5 ⟨rfl, hbel⟩
      have HB5 : Hid (Below w.heap.size w w5) := HB4.out.trans (hbel.mono HB4.out.size)
      have HX5 : Hid (Box6 w5 w.heap.size a b c d e f) := HX4.out.below (B := w3.heap.size + 1) (hbel.mono (by simp)) (by omega)
      have HZ5 : Hid (Box6 w5 w3.heap.size a b c d e f) := HZ4.out.below (B := w3.heap.size + 1) (hbel.mono (by simp)) (by omega)
      have HO5 := Lib.hid (HO4.out.keep hbel)
      have hw5 : w3.heap.size < w5.heap.size := by have := hbel.size; simp at this; omega
      obtain ⟨l0, l1, l2, l3, l4, l5⟩ := HX5.out
      clear hbel
      go_wp2_with fail
      obtain ⟨tn, rfl⟩ := Int.eq_ofNat_of_zero_le htl0
      refine (refHencode_any a b c d e f tn w5 HV.out (by omega) fr HFR.out).mono ?_
      rintro e' w6 ⟨A6, c6, rfl, hown, hbel⟩
      have HB6 : Hid (Below w.heap.size w w6) := HB5.out.trans (hbel.mono HB5.out.size)
      have HO6 := Lib.hid (HO5.out.keep hbel)
      clear l0 l1 l2 l3 l4 l5
      obtain ⟨l0, l1, l2, l3, l4, l5⟩ := HX5.out.below hbel (by omega)
      obtain ⟨m0, m1, m2, m3, m4, m5⟩ := HZ5.out.below hbel hw5
      simp only [HFL.out] at hown ⊢
      have HP6 := Lib.hid hown
      clear hown hbel
      go_wp2_with fail
      refine (eq_any fr fr (some ⟨g, 0, none⟩) A6 64 64 c1 c6 _ _ w6 HO6.out.byt HP6.out.byt (by decide) (by decide)).mono ?_
      rintro e' w7 ⟨rfl, q, rfl⟩
      rw [decide_eq_true rfl]
      go_wp2
      go_ret
      exact ⟨rfl, ofDrewN HB6.out _⟩
end Go.Proofs.YtepbchaeeldjmaaDoor
