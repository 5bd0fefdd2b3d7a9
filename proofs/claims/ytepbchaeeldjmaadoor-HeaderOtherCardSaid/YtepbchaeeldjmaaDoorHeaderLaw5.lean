/- The walk of the law HeaderOther. -/
import Derived.Test.YtepbchaeeldjmaaDoorHeaderLaw300
import Derived.Test.YtepbchaeeldjmaaDoorHeaderLaw301
import Derived.Test.YtepbchaeeldjmaaDoorHeaderLaw310
import Derived.Test.YtepbchaeeldjmaaDoorHeaderLaw311
namespace Go.Proofs.YtepbchaeeldjmaaDoor
open Go.RowKit

set_option maxRecDepth 100000 in
set_option maxHeartbeats 2000000 in
theorem other_bad0 (a b c d e f a' b' c' d' e' f' s t : Int) (w : World) (HT : Hid (∀ w', Below w.heap.size w w' → TabAt w' ∧ 0 < w'.heap.size)) (ra rb : List UInt8) (x y : Int) (HEA : Hid (hencS (a, b, c, d, e, f) s = (ra, x))) (HEB : Hid (hencS (a', b', c', d', e', f') s = (rb, y))) (hbad : ¬ x = 0) :
    Calls Tryd.prog 11 #[.agg #[.int .i64 a, .int .i64 b, .int .i64 c, .int .i64 d, .int .i64 e, .int .i64 f, .int .i64 a', .int .i64 b', .int .i64 c', .int .i64 d', .int .i64 e', .int .i64 f', .int .i64 s, .int .i64 t]] w fun en w' => en = .returned (.bool true) ∧ Below w.heap.size w w' := by
  have H0 := Lib.hid (other_pre0 a b c d e f a' b' c' d' e' f' w)
  have H1 := Lib.hid (other_pre1 a b c d e f a' b' c' d' e' f' w)
  go_enter Tryd.func11, Tryd.ntmps11
  go_wp2_with fail
  go_region
  · go_wp2_with fail
    refine (hencode_any a b c d e f s _ (HT.out _ (H0.out _).1).1 (HT.out _ (H0.out _).1).2 _ HEA.out).mono ?_
    rintro en w1 ⟨A1, c1, rfl, hown, hbel⟩
    have HB1 : Hid (Below w.heap.size w w1) := (H0.out _).1.trans (hbel.mono (H0.out _).1.size)
    have HX1 : Hid (Box6 w1 (w.heap.size + 1) a b c d e f) := (H0.out _).2.1.below (B := w.heap.size + 1 + 1 + 1) (hbel.mono (by simp)) (by omega)
    have HZ1 : Hid (Box6 w1 (w.heap.size + 1 + 1) a' b' c' d' e' f') := (H0.out _).2.2.below (B := w.heap.size + 1 + 1 + 1) (hbel.mono (by simp)) (by omega)
    have hw1 : w.heap.size + 1 + 1 < w1.heap.size := by have := hbel.size; simp at this; omega
    obtain ⟨m0, m1, m2, m3, m4, m5⟩ := HZ1.out
    clear hown hbel
    go_wp2_with fail
    refine (hencode_any a' b' c' d' e' f' s w1 (HT.out _ HB1.out).1 (HT.out _ HB1.out).2 _ HEB.out).mono ?_
    rintro en w2 ⟨A2, c2, rfl, hown, hbel⟩
    have HB2 : Hid (Below w.heap.size w w2) := HB1.out.trans (hbel.mono HB1.out.size)
    have HX2 : Hid (Box6 w2 (w.heap.size + 1) a b c d e f) := HX1.out.below hbel (by omega)
    have HZ2 : Hid (Box6 w2 (w.heap.size + 1 + 1) a' b' c' d' e' f') := HZ1.out.below hbel (by omega)
    have hw2 : w.heap.size + 1 + 1 < w2.heap.size := Nat.lt_of_lt_of_le hw1 hbel.size
    clear m0 m1 m2 m3 m4 m5
    clear hown hbel
    go_wp2_with fail
    refine (headerAwake_any _ (HT.out _ HB2.out).1 (HT.out _ HB2.out).2).mono ?_
    rintro en w3 ⟨rfl, hbel⟩
    have HB3 : Hid (Below w.heap.size w w3) := HB2.out.trans (hbel.mono HB2.out.size)
    clear hbel
    go_wp2
    go_ret
    exact ⟨rfl, HB3.out⟩
  · go_wp2_with fail
    refine (hencode_any a b c d e f s _ (HT.out _ (H1.out _).1).1 (HT.out _ (H1.out _).1).2 _ HEA.out).mono ?_
    rintro en w1 ⟨A1, c1, rfl, hown, hbel⟩
    have HB1 : Hid (Below w.heap.size w w1) := (H1.out _).1.trans (hbel.mono (H1.out _).1.size)
    have HX1 : Hid (Box6 w1 (w.heap.size + 1 + 1) a b c d e f) := (H1.out _).2.1.below (B := w.heap.size + 1 + 1 + 1) (hbel.mono (by simp)) (by omega)
    have HZ1 : Hid (Box6 w1 (w.heap.size + 1) a' b' c' d' e' f') := (H1.out _).2.2.below (B := w.heap.size + 1 + 1 + 1) (hbel.mono (by simp)) (by omega)
    have hw1 : w.heap.size + 1 + 1 < w1.heap.size := by have := hbel.size; simp at this; omega
    obtain ⟨m0, m1, m2, m3, m4, m5⟩ := HZ1.out
    clear hown hbel
    go_wp2_with fail
    refine (hencode_any a' b' c' d' e' f' s w1 (HT.out _ HB1.out).1 (HT.out _ HB1.out).2 _ HEB.out).mono ?_
    rintro en w2 ⟨A2, c2, rfl, hown, hbel⟩
    have HB2 : Hid (Below w.heap.size w w2) := HB1.out.trans (hbel.mono HB1.out.size)
    have HX2 : Hid (Box6 w2 (w.heap.size + 1 + 1) a b c d e f) := HX1.out.below hbel (by omega)
    have HZ2 : Hid (Box6 w2 (w.heap.size + 1) a' b' c' d' e' f') := HZ1.out.below hbel (by omega)
    have hw2 : w.heap.size + 1 + 1 < w2.heap.size := Nat.lt_of_lt_of_le hw1 hbel.size
    clear m0 m1 m2 m3 m4 m5
    clear hown hbel
    go_wp2_with fail
    refine (headerAwake_any _ (HT.out _ HB2.out).1 (HT.out _ HB2.out).2).mono ?_
    rintro en w3 ⟨rfl, hbel⟩
    have HB3 : Hid (Below w.heap.size w w3) := HB2.out.trans (hbel.mono HB2.out.size)
    clear hbel
    go_wp2
    go_ret
    exact ⟨rfl, HB3.out⟩

set_option maxRecDepth 100000 in
set_option maxHeartbeats 2000000 in
theorem other_bad1 (a b c d e f a' b' c' d' e' f' s t : Int) (w : World) (HT : Hid (∀ w', Below w.heap.size w w' → TabAt w' ∧ 0 < w'.heap.size)) (ra rb : List UInt8) (x y : Int) (HEA : Hid (hencS (a, b, c, d, e, f) s = (ra, x))) (HEB : Hid (hencS (a', b', c', d', e', f') s = (rb, y))) (hx : x = 0) (hbad : ¬ y = 0) :
    Calls Tryd.prog 11 #[.agg #[.int .i64 a, .int .i64 b, .int .i64 c, .int .i64 d, .int .i64 e, .int .i64 f, .int .i64 a', .int .i64 b', .int .i64 c', .int .i64 d', .int .i64 e', .int .i64 f', .int .i64 s, .int .i64 t]] w fun en w' => en = .returned (.bool true) ∧ Below w.heap.size w w' := by
  have H0 := Lib.hid (other_pre0 a b c d e f a' b' c' d' e' f' w)
  have H1 := Lib.hid (other_pre1 a b c d e f a' b' c' d' e' f' w)
  subst hx
  go_enter Tryd.func11, Tryd.ntmps11
  go_wp2_with fail
  go_region
  · go_wp2_with fail
    refine (hencode_any a b c d e f s _ (HT.out _ (H0.out _).1).1 (HT.out _ (H0.out _).1).2 _ HEA.out).mono ?_
    rintro en w1 ⟨A1, c1, rfl, hown, hbel⟩
    have HB1 : Hid (Below w.heap.size w w1) := (H0.out _).1.trans (hbel.mono (H0.out _).1.size)
    have HX1 : Hid (Box6 w1 (w.heap.size + 1) a b c d e f) := (H0.out _).2.1.below (B := w.heap.size + 1 + 1 + 1) (hbel.mono (by simp)) (by omega)
    have HZ1 : Hid (Box6 w1 (w.heap.size + 1 + 1) a' b' c' d' e' f') := (H0.out _).2.2.below (B := w.heap.size + 1 + 1 + 1) (hbel.mono (by simp)) (by omega)
    have hw1 : w.heap.size + 1 + 1 < w1.heap.size := by have := hbel.size; simp at this; omega
    obtain ⟨m0, m1, m2, m3, m4, m5⟩ := HZ1.out
    clear hown hbel
    go_wp2_with fail
    refine (hencode_any a' b' c' d' e' f' s w1 (HT.out _ HB1.out).1 (HT.out _ HB1.out).2 _ HEB.out).mono ?_
    rintro en w2 ⟨A2, c2, rfl, hown, hbel⟩
    have HB2 : Hid (Below w.heap.size w w2) := HB1.out.trans (hbel.mono HB1.out.size)
    have HX2 : Hid (Box6 w2 (w.heap.size + 1) a b c d e f) := HX1.out.below hbel (by omega)
    have HZ2 : Hid (Box6 w2 (w.heap.size + 1 + 1) a' b' c' d' e' f') := HZ1.out.below hbel (by omega)
    have hw2 : w.heap.size + 1 + 1 < w2.heap.size := Nat.lt_of_lt_of_le hw1 hbel.size
    clear m0 m1 m2 m3 m4 m5
    clear hown hbel
    go_wp2_with fail
    refine (headerAwake_any _ (HT.out _ HB2.out).1 (HT.out _ HB2.out).2).mono ?_
    rintro en w3 ⟨rfl, hbel⟩
    have HB3 : Hid (Below w.heap.size w w3) := HB2.out.trans (hbel.mono HB2.out.size)
    clear hbel
    go_wp2
    go_ret
    exact ⟨rfl, HB3.out⟩
  · go_wp2_with fail
    refine (hencode_any a b c d e f s _ (HT.out _ (H1.out _).1).1 (HT.out _ (H1.out _).1).2 _ HEA.out).mono ?_
    rintro en w1 ⟨A1, c1, rfl, hown, hbel⟩
    have HB1 : Hid (Below w.heap.size w w1) := (H1.out _).1.trans (hbel.mono (H1.out _).1.size)
    have HX1 : Hid (Box6 w1 (w.heap.size + 1 + 1) a b c d e f) := (H1.out _).2.1.below (B := w.heap.size + 1 + 1 + 1) (hbel.mono (by simp)) (by omega)
    have HZ1 : Hid (Box6 w1 (w.heap.size + 1) a' b' c' d' e' f') := (H1.out _).2.2.below (B := w.heap.size + 1 + 1 + 1) (hbel.mono (by simp)) (by omega)
    have hw1 : w.heap.size + 1 + 1 < w1.heap.size := by have := hbel.size; simp at this; omega
    obtain ⟨m0, m1, m2, m3, m4, m5⟩ := HZ1.out
    clear hown hbel
    go_wp2_with fail
    refine (hencode_any a' b' c' d' e' f' s w1 (HT.out _ HB1.out).1 (HT.out _ HB1.out).2 _ HEB.out).mono ?_
    rintro en w2 ⟨A2, c2, rfl, hown, hbel⟩
    have HB2 : Hid (Below w.heap.size w w2) := HB1.out.trans (hbel.mono HB1.out.size)
    have HX2 : Hid (Box6 w2 (w.heap.size + 1 + 1) a b c d e f) := HX1.out.below hbel (by omega)
    have HZ2 : Hid (Box6 w2 (w.heap.size + 1) a' b' c' d' e' f') := HZ1.out.below hbel (by omega)
    have hw2 : w.heap.size + 1 + 1 < w2.heap.size := Nat.lt_of_lt_of_le hw1 hbel.size
    clear m0 m1 m2 m3 m4 m5
    clear hown hbel
    go_wp2_with fail
    refine (headerAwake_any _ (HT.out _ HB2.out).1 (HT.out _ HB2.out).2).mono ?_
    rintro en w3 ⟨rfl, hbel⟩
    have HB3 : Hid (Below w.heap.size w w3) := HB2.out.trans (hbel.mono HB2.out.size)
    clear hbel
    go_wp2
    go_ret
    exact ⟨rfl, HB3.out⟩

theorem headerOther_any (a b c d e f a' b' c' d' e' f' s t : Int) (w : World) (ht : TabAt w) (h0 : 0 < w.heap.size) :
    Calls Tryd.prog 11 #[.agg #[.int .i64 a, .int .i64 b, .int .i64 c, .int .i64 d, .int .i64 e, .int .i64 f, .int .i64 a', .int .i64 b', .int .i64 c', .int .i64 d', .int .i64 e', .int .i64 f', .int .i64 s, .int .i64 t]] w fun en w' => en = .returned (.bool true) ∧ Below w.heap.size w w' := by
  have HT : Hid (∀ w', Below w.heap.size w w' → TabAt w' ∧ 0 < w'.heap.size) := fun w' hw => ⟨ht.below hw h0, Nat.lt_of_lt_of_le h0 hw.size⟩
  clear ht h0
  by_cases hok : hvalid (a, b, c, d, e, f) = true ∧ hvalid (a', b', c', d', e', f') = true ∧ may 1 0 s = true
  · obtain ⟨hva, hvb, hm⟩ := hok
    have HEA : Hid (hencS (a, b, c, d, e, f) s = (hencF (a, b, c, d, e, f) s, 0)) := hencS_ok hva hm
    have HEB : Hid (hencS (a', b', c', d', e', f') s = (hencF (a', b', c', d', e', f') s, 0)) := hencS_ok hvb hm
    have hij := hencF_inj hva hvb hm
    by_cases hst : s = t
    · subst hst
      have hd : hdec s (hencF (a, b, c, d, e, f) s) = some (a, b, c, d, e, f) := hdec_enc hva hm
      by_cases heq : a = a' ∧ b = b' ∧ c = c' ∧ d = d' ∧ e = e' ∧ f = f'
      · obtain ⟨rfl, rfl, rfl, rfl, rfl, rfl⟩ := heq
        exact other_00 a b c d e f s w HT _ _ HEA HEB hd (hencF_len _ _) (hencF_len _ _) (decide_eq_true rfl)
      · exact other_01 a b c d e f a' b' c' d' e' f' s w HT _ _ HEA HEB hd (hencF_len _ _) (hencF_len _ _) (decide_eq_false (fun h => heq (by have := hij.1 h; simpa using this))) heq
    · have hd : hdec t (hencF (a, b, c, d, e, f) s) = none := by
        have := hdec_other (t := t) hva hm
        rw [decide_eq_false hst] at this
        simpa using this
      by_cases heq : a = a' ∧ b = b' ∧ c = c' ∧ d = d' ∧ e = e' ∧ f = f'
      · obtain ⟨rfl, rfl, rfl, rfl, rfl, rfl⟩ := heq
        exact other_10 a b c d e f s t w HT _ _ hst HEA HEB hd (hencF_len _ _) (hencF_len _ _) (decide_eq_true rfl)
      · exact other_11 a b c d e f a' b' c' d' e' f' s t w HT _ _ hst HEA HEB hd (hencF_len _ _) (hencF_len _ _) (decide_eq_false (fun h => heq (by have := hij.1 h; simpa using this))) heq
  · have key : ∀ h : Hdr, (hencS h s).2 = 0 → hvalid h = true ∧ may 1 0 s = true := by
      intro h hh
      cases hv : hvalid h
      · rw [hencS_bad hv] at hh; cases hh
      · cases hm : may 1 0 s
        · rw [hencS_range hv hm] at hh; cases hh
        · exact ⟨rfl, rfl⟩
    by_cases h1 : (hencS (a, b, c, d, e, f) s).2 = 0
    · by_cases h2 : (hencS (a', b', c', d', e', f') s).2 = 0
      · exact absurd ⟨(key _ h1).1, (key _ h2).1, (key _ h1).2⟩ hok
      · exact other_bad1 a b c d e f a' b' c' d' e' f' s t w HT _ _ _ _ rfl rfl h1 h2
    · exact other_bad0 a b c d e f a' b' c' d' e' f' s t w HT _ _ _ _ rfl rfl h1
end Go.Proofs.YtepbchaeeldjmaaDoor
