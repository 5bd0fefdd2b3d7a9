/- The walks of plan.Valid and of the reference's Valid. -/
import Derived.Test.YthjnbdbbeidhgaaDoorPlanRec
import Derived.Test.YthjnbdbbeidhgaaDoorFormRef
import Derived.Test.YthjnbdbbeidhgaaDoorCells
namespace Go.Proofs.YthjnbdbbeidhgaaDoor
open Go.RowKit

set_option maxHeartbeats 2000000 in
theorem pvalid_any (k m i t a b c d : Int) (ha : I64 a) (hb : I64 b) (hc : I64 c) (hd : I64 d) (r : Bool) (hr : pvalid (k, m, i, t, a, b, c, d) = r) (w : World) :
    Calls Tryd.prog 10 #[.agg #[.int .i64 k, .int .i64 m, .int .i64 i, .int .i64 t, .int .i64 a, .int .i64 b, .int .i64 c, .int .i64 d]] w fun e w' => e = .returned (.bool r) ∧ Below w.heap.size w w' := by
  have FO := Lib.hid (fun w => form_any a b c d ha hb hc hd w)
  have HB0 : Hid (Below w.heap.size w (w.alloc (.cells #[.int .i64 k, .int .i64 m, .int .i64 i, .int .i64 t, .int .i64 a, .int .i64 b, .int .i64 c, .int .i64 d] 25))) := (Below.refl _ _).alloc (Nat.le_refl _) _
  have HX0 := Lib.hid (Cells.new w 25 #[.int .i64 k, .int .i64 m, .int .i64 i, .int .i64 t, .int .i64 a, .int .i64 b, .int .i64 c, .int .i64 d])
  have NO : Hid (¬ (1 ≤ m ∧ m ≤ 4294967295 ∧ 0 ≤ t ∧ t ≤ 281474976710655 ∧ form a b c d = true ∧ ((k = 1 ∧ i = 0) ∨ (k = 2 ∧ 1 ≤ i ∧ i < 36))) → r = false) := fun h => by rw [← hr]; exact decide_eq_false h
  have YES : Hid ((1 ≤ m ∧ m ≤ 4294967295 ∧ 0 ≤ t ∧ t ≤ 281474976710655 ∧ form a b c d = true ∧ ((k = 1 ∧ i = 0) ∨ (k = 2 ∧ 1 ≤ i ∧ i < 36))) → r = true) := fun h => by rw [← hr]; exact decide_eq_true h
  clear hr ha hb hc hd
  by_cases h : m < 1
  · go_enter Tryd.func10, Tryd.ntmps10
    go_wp2
    go_ret
    exact ⟨by rw [NO.out (by omega)]; rfl, HB0.out⟩
  by_cases h : 4294967295 < m
  · go_enter Tryd.func10, Tryd.ntmps10
    go_wp2
    go_ret
    exact ⟨by rw [NO.out (by omega)]; rfl, HB0.out⟩
  by_cases h : t < 0
  · go_enter Tryd.func10, Tryd.ntmps10
    go_wp2
    go_ret
    exact ⟨by rw [NO.out (by omega)]; rfl, HB0.out⟩
  by_cases h : 281474976710655 < t
  · go_enter Tryd.func10, Tryd.ntmps10
    go_wp2
    go_ret
    exact ⟨by rw [NO.out (by omega)]; rfl, HB0.out⟩
  cases hf : form a b c d
  · go_enter Tryd.func10, Tryd.ntmps10
    go_wp2_with (go_at_call 26; (with_reducible refine (FO.out _).mono ?_); rw [hf]; rintro e w1 ⟨rfl, hbel⟩; have HB1 : Hid (Below w.heap.size w w1) := HB0.out.trans (hbel.mono HB0.out.size); have HX1 := Lib.hid (HX0.out.below hbel (by simp)); have l0 := HX1.out 0 _ rfl; have l2 := HX1.out 2 _ rfl; clear hbel)
    go_ret
    exact ⟨by rw [NO.out (by simp [hf])]; rfl, HB1.out⟩
  · by_cases hk : k = 1
    · subst hk
      by_cases hs : i = 0
      · subst hs
        go_enter Tryd.func10, Tryd.ntmps10
        go_wp2_with (go_at_call 26; (with_reducible refine (FO.out _).mono ?_); rw [hf]; rintro e w1 ⟨rfl, hbel⟩; have HB1 : Hid (Below w.heap.size w w1) := HB0.out.trans (hbel.mono HB0.out.size); have HX1 := Lib.hid (HX0.out.below hbel (by simp)); have l0 := HX1.out 0 _ rfl; have l2 := HX1.out 2 _ rfl; clear hbel)
        go_ret
        exact ⟨by rw [YES.out ⟨by omega, by omega, by omega, by omega, hf, by first | omega | (simp; done) | (simp; omega)⟩]; first | rfl | simp [*] | (simp; omega), HB1.out⟩
      go_enter Tryd.func10, Tryd.ntmps10
      go_wp2_with (go_at_call 26; (with_reducible refine (FO.out _).mono ?_); rw [hf]; rintro e w1 ⟨rfl, hbel⟩; have HB1 : Hid (Below w.heap.size w w1) := HB0.out.trans (hbel.mono HB0.out.size); have HX1 := Lib.hid (HX0.out.below hbel (by simp)); have l0 := HX1.out 0 _ rfl; have l2 := HX1.out 2 _ rfl; clear hbel)
      go_ret
      exact ⟨by rw [NO.out (by first | omega | (simp; done) | (simp; omega))]; first | rfl | simp [*] | (simp; omega), HB1.out⟩
    by_cases hk2 : k = 2
    · subst hk2
      by_cases hs : i < 1
      · go_enter Tryd.func10, Tryd.ntmps10
        go_wp2_with (go_at_call 26; (with_reducible refine (FO.out _).mono ?_); rw [hf]; rintro e w1 ⟨rfl, hbel⟩; have HB1 : Hid (Below w.heap.size w w1) := HB0.out.trans (hbel.mono HB0.out.size); have HX1 := Lib.hid (HX0.out.below hbel (by simp)); have l0 := HX1.out 0 _ rfl; have l2 := HX1.out 2 _ rfl; clear hbel)
        go_ret
        exact ⟨by rw [NO.out (by first | omega | (simp; done) | (simp; omega))]; first | rfl | simp [*] | (simp; omega), HB1.out⟩
      by_cases hs : 36 ≤ i
      · go_enter Tryd.func10, Tryd.ntmps10
        go_wp2_with (go_at_call 26; (with_reducible refine (FO.out _).mono ?_); rw [hf]; rintro e w1 ⟨rfl, hbel⟩; have HB1 : Hid (Below w.heap.size w w1) := HB0.out.trans (hbel.mono HB0.out.size); have HX1 := Lib.hid (HX0.out.below hbel (by simp)); have l0 := HX1.out 0 _ rfl; have l2 := HX1.out 2 _ rfl; clear hbel)
        go_ret
        exact ⟨by rw [NO.out (by first | omega | (simp; done) | (simp; omega))]; first | rfl | simp [*] | (simp; omega), HB1.out⟩
      go_enter Tryd.func10, Tryd.ntmps10
      go_wp2_with (go_at_call 26; (with_reducible refine (FO.out _).mono ?_); rw [hf]; rintro e w1 ⟨rfl, hbel⟩; have HB1 : Hid (Below w.heap.size w w1) := HB0.out.trans (hbel.mono HB0.out.size); have HX1 := Lib.hid (HX0.out.below hbel (by simp)); have l0 := HX1.out 0 _ rfl; have l2 := HX1.out 2 _ rfl; clear hbel)
      go_ret
      exact ⟨by rw [YES.out ⟨by omega, by omega, by omega, by omega, hf, by first | omega | (simp; done) | (simp; omega)⟩]; first | rfl | simp [*] | (simp; omega), HB1.out⟩
    go_enter Tryd.func10, Tryd.ntmps10
    go_wp2_with (go_at_call 26; (with_reducible refine (FO.out _).mono ?_); rw [hf]; rintro e w1 ⟨rfl, hbel⟩; have HB1 : Hid (Below w.heap.size w w1) := HB0.out.trans (hbel.mono HB0.out.size); have HX1 := Lib.hid (HX0.out.below hbel (by simp)); have l0 := HX1.out 0 _ rfl; have l2 := HX1.out 2 _ rfl; clear hbel)
    go_ret
    exact ⟨by rw [NO.out (by first | omega | (simp; done) | (simp; omega))]; first | rfl | simp [*] | (simp; omega), HB1.out⟩

set_option maxHeartbeats 2000000 in
theorem refPvalid_any (k m i t a b c d : Int) (ha : I64 a) (hb : I64 b) (hc : I64 c) (hd : I64 d) (r : Bool) (hr : pvalid (k, m, i, t, a, b, c, d) = r) (w : World) :
    Calls Tryd.prog 11 #[.agg #[.int .i64 k, .int .i64 m, .int .i64 i, .int .i64 t, .int .i64 a, .int .i64 b, .int .i64 c, .int .i64 d]] w fun e w' => e = .returned (.bool r) ∧ Below w.heap.size w w' := by
  have FO := Lib.hid (fun w => refForm_any a b c d ha hb hc hd w)
  have HB0 : Hid (Below w.heap.size w (w.alloc (.cells #[.int .i64 k, .int .i64 m, .int .i64 i, .int .i64 t, .int .i64 a, .int .i64 b, .int .i64 c, .int .i64 d] 25))) := (Below.refl _ _).alloc (Nat.le_refl _) _
  have HX0 := Lib.hid (Cells.new w 25 #[.int .i64 k, .int .i64 m, .int .i64 i, .int .i64 t, .int .i64 a, .int .i64 b, .int .i64 c, .int .i64 d])
  have NO : Hid (¬ (1 ≤ m ∧ m ≤ 4294967295 ∧ 0 ≤ t ∧ t ≤ 281474976710655 ∧ form a b c d = true ∧ ((k = 1 ∧ i = 0) ∨ (k = 2 ∧ 1 ≤ i ∧ i < 36))) → r = false) := fun h => by rw [← hr]; exact decide_eq_false h
  have YES : Hid ((1 ≤ m ∧ m ≤ 4294967295 ∧ 0 ≤ t ∧ t ≤ 281474976710655 ∧ form a b c d = true ∧ ((k = 1 ∧ i = 0) ∨ (k = 2 ∧ 1 ≤ i ∧ i < 36))) → r = true) := fun h => by rw [← hr]; exact decide_eq_true h
  clear hr ha hb hc hd
  by_cases h : m < 1
  · go_enter Tryd.func11, Tryd.ntmps11
    go_wp2
    go_ret
    exact ⟨by rw [NO.out (by omega)]; rfl, HB0.out⟩
  by_cases h : 4294967295 < m
  · go_enter Tryd.func11, Tryd.ntmps11
    go_wp2
    go_ret
    exact ⟨by rw [NO.out (by omega)]; rfl, HB0.out⟩
  by_cases h : t < 0
  · go_enter Tryd.func11, Tryd.ntmps11
    go_wp2
    go_ret
    exact ⟨by rw [NO.out (by omega)]; rfl, HB0.out⟩
  by_cases h : 281474976710655 < t
  · go_enter Tryd.func11, Tryd.ntmps11
    go_wp2
    go_ret
    exact ⟨by rw [NO.out (by omega)]; rfl, HB0.out⟩
  cases hf : form a b c d
  · go_enter Tryd.func11, Tryd.ntmps11
    go_wp2_with (go_at_call 27; (with_reducible refine (FO.out _).mono ?_); rw [hf]; rintro e w1 ⟨rfl, hbel⟩; have HB1 : Hid (Below w.heap.size w w1) := HB0.out.trans (hbel.mono HB0.out.size); have HX1 := Lib.hid (HX0.out.below hbel (by simp)); have l0 := HX1.out 0 _ rfl; have l2 := HX1.out 2 _ rfl; clear hbel)
    go_ret
    exact ⟨by rw [NO.out (by simp [hf])]; rfl, HB1.out⟩
  · by_cases hk : k = 1
    · subst hk
      by_cases hs : i = 0
      · subst hs
        go_enter Tryd.func11, Tryd.ntmps11
        go_wp2_with (go_at_call 27; (with_reducible refine (FO.out _).mono ?_); rw [hf]; rintro e w1 ⟨rfl, hbel⟩; have HB1 : Hid (Below w.heap.size w w1) := HB0.out.trans (hbel.mono HB0.out.size); have HX1 := Lib.hid (HX0.out.below hbel (by simp)); have l0 := HX1.out 0 _ rfl; have l2 := HX1.out 2 _ rfl; clear hbel)
        go_ret
        exact ⟨by rw [YES.out ⟨by omega, by omega, by omega, by omega, hf, by first | omega | (simp; done) | (simp; omega)⟩]; first | rfl | simp [*] | (simp; omega), HB1.out⟩
      go_enter Tryd.func11, Tryd.ntmps11
      go_wp2_with (go_at_call 27; (with_reducible refine (FO.out _).mono ?_); rw [hf]; rintro e w1 ⟨rfl, hbel⟩; have HB1 : Hid (Below w.heap.size w w1) := HB0.out.trans (hbel.mono HB0.out.size); have HX1 := Lib.hid (HX0.out.below hbel (by simp)); have l0 := HX1.out 0 _ rfl; have l2 := HX1.out 2 _ rfl; clear hbel)
      go_ret
      exact ⟨by rw [NO.out (by first | omega | (simp; done) | (simp; omega))]; first | rfl | simp [*] | (simp; omega), HB1.out⟩
    by_cases hk2 : k = 2
    · subst hk2
      by_cases hs : i < 1
      · go_enter Tryd.func11, Tryd.ntmps11
        go_wp2_with (go_at_call 27; (with_reducible refine (FO.out _).mono ?_); rw [hf]; rintro e w1 ⟨rfl, hbel⟩; have HB1 : Hid (Below w.heap.size w w1) := HB0.out.trans (hbel.mono HB0.out.size); have HX1 := Lib.hid (HX0.out.below hbel (by simp)); have l0 := HX1.out 0 _ rfl; have l2 := HX1.out 2 _ rfl; clear hbel)
        go_ret
        exact ⟨by rw [NO.out (by first | omega | (simp; done) | (simp; omega))]; first | rfl | simp [*] | (simp; omega), HB1.out⟩
      by_cases hs : 36 ≤ i
      · go_enter Tryd.func11, Tryd.ntmps11
        go_wp2_with (go_at_call 27; (with_reducible refine (FO.out _).mono ?_); rw [hf]; rintro e w1 ⟨rfl, hbel⟩; have HB1 : Hid (Below w.heap.size w w1) := HB0.out.trans (hbel.mono HB0.out.size); have HX1 := Lib.hid (HX0.out.below hbel (by simp)); have l0 := HX1.out 0 _ rfl; have l2 := HX1.out 2 _ rfl; clear hbel)
        go_ret
        exact ⟨by rw [NO.out (by first | omega | (simp; done) | (simp; omega))]; first | rfl | simp [*] | (simp; omega), HB1.out⟩
      go_enter Tryd.func11, Tryd.ntmps11
      go_wp2_with (go_at_call 27; (with_reducible refine (FO.out _).mono ?_); rw [hf]; rintro e w1 ⟨rfl, hbel⟩; have HB1 : Hid (Below w.heap.size w w1) := HB0.out.trans (hbel.mono HB0.out.size); have HX1 := Lib.hid (HX0.out.below hbel (by simp)); have l0 := HX1.out 0 _ rfl; have l2 := HX1.out 2 _ rfl; clear hbel)
      go_ret
      exact ⟨by rw [YES.out ⟨by omega, by omega, by omega, by omega, hf, by first | omega | (simp; done) | (simp; omega)⟩]; first | rfl | simp [*] | (simp; omega), HB1.out⟩
    go_enter Tryd.func11, Tryd.ntmps11
    go_wp2_with (go_at_call 27; (with_reducible refine (FO.out _).mono ?_); rw [hf]; rintro e w1 ⟨rfl, hbel⟩; have HB1 : Hid (Below w.heap.size w w1) := HB0.out.trans (hbel.mono HB0.out.size); have HX1 := Lib.hid (HX0.out.below hbel (by simp)); have l0 := HX1.out 0 _ rfl; have l2 := HX1.out 2 _ rfl; clear hbel)
    go_ret
    exact ⟨by rw [NO.out (by first | omega | (simp; done) | (simp; omega))]; first | rfl | simp [*] | (simp; omega), HB1.out⟩

end Go.Proofs.YthjnbdbbeidhgaaDoor
