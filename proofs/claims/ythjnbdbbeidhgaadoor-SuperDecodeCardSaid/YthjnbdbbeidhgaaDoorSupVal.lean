/- superblock.phase, superblock.Valid. -/
import Derived.Test.YthjnbdbbeidhgaaDoorSupRet
import Derived.Deep.RegionWith
namespace Go.Proofs.YthjnbdbbeidhgaaDoor
open Go.RowKit

theorem below_ret2 {B : Nat} {a w : World} (h : Below B a w) (hB : B ≤ w.heap.size) (q : Nat) (o : Obj) : Below B a ((w.alloc o).drewN q) := below_drewN (h.alloc hB _) q

set_option maxRecDepth 100000 in
set_option maxHeartbeats 4000000 in
theorem phase_any (g p m t n a1 b1 c1 d1 a2 b2 c2 d2 : Int) (fs : List Ly) (A : Option Addr) (k c B : Nat) (w : World) (hx : LAt w B A k fs) (hk : k ≤ 9223372036854775807) (hB : B ≤ w.heap.size) (hok : ∀ l ∈ fs, l.ok) (o1 : I64 a2) (o2 : I64 b2) (o3 : I64 c2) (o4 : I64 d2) (r : Bool) (hr : phaseB p m ⟨a1, b1, c1, d1⟩ ⟨a2, b2, c2, d2⟩ fs = r) :
    Calls Tryd.prog 50 #[.agg #[.int .i64 g, .int .i64 p, .int .i64 m, .int .i64 t, .int .i64 n, .int .i64 a1, .int .i64 b1, .int .i64 c1, .int .i64 d1, .int .i64 a2, .int .i64 b2, .int .i64 c2, .int .i64 d2, .slice A k c]] w fun e w' => e = .returned (.bool r) ∧ Below w.heap.size w w' := by
  have HB0 : Hid (Below w.heap.size w (w.alloc (.cells #[.int .i64 g, .int .i64 p, .int .i64 m, .int .i64 t, .int .i64 n, .int .i64 a1, .int .i64 b1, .int .i64 c1, .int .i64 d1, .int .i64 a2, .int .i64 b2, .int .i64 c2, .int .i64 d2, .slice A k c] 41))) := (Below.refl _ _).alloc (Nat.le_refl _) _
  have HX0 := Lib.hid (Cells.new w 41 #[.int .i64 g, .int .i64 p, .int .i64 m, .int .i64 t, .int .i64 n, .int .i64 a1, .int .i64 b1, .int .i64 c1, .int .i64 d1, .int .i64 a2, .int .i64 b2, .int .i64 c2, .int .i64 d2, .slice A k c])
  have HL : Hid (∀ w', Below w.heap.size w w' → LAt w' w.heap.size A k fs) := fun w' hb => (hx.more hB).below hb
  have HKL : Hid (fs.length = k) := hx.1
  have FO := Lib.hid (fun w => form_any a2 b2 c2 d2 o1 o2 o3 o4 w)
  have RE := Lib.hid (fun w' hb => returning_any g p m t n a1 b1 c1 d1 a2 b2 c2 d2 fs A k c w.heap.size w' (HL.out w' hb) hk hb.size hok _ rfl)
  clear hx hok hB o1 o2 o3 o4
  unfold phaseB at hr
  by_cases hp : p = 1
  · subst hp
    rw [if_pos rfl] at hr
    by_cases hz : a2 = 0 ∧ b2 = 0 ∧ c2 = 0 ∧ d2 = 0
    rotate_left
    · obtain rfl : r = false := by rw [← hr]; exact decide_eq_false (fun h => hz (by have h1 := h.1; injection h1 with e1 e2 e3 e4; exact ⟨e1, e2, e3, e4⟩))
      clear hr
      rcases ne_first hz with hne | ⟨rfl, hne⟩ | ⟨rfl, rfl, hne⟩ | ⟨rfl, rfl, rfl, hne⟩
      all_goals
        clear hz
        go_enter Tryd.func50, Tryd.ntmps50
        go_wp2
        go_ret
        exact ⟨rfl, HB0.out⟩
    obtain ⟨rfl, rfl, rfl, rfl⟩ := hz
    have HE : Hid (r = decide ((k : Int) = 0)) := by
      show _ = _
      rw [← hr]
      refine decide_eq_decide.2 ⟨fun h => ?_, fun h => ⟨rfl, List.eq_nil_of_length_eq_zero (by rw [HKL.out]; omega)⟩⟩
      have := HKL.out
      rw [h.2] at this
      simp at this
      omega
    clear hr
    by_cases hk0 : k = 0
    · subst hk0
      go_enter Tryd.func50, Tryd.ntmps50
      go_wp2
      go_ret
      exact ⟨by rw [HE.out]; rfl, HB0.out⟩
    · have hne : ¬ (k : Int) = 0 := by omega
      go_enter Tryd.func50, Tryd.ntmps50
      go_wp2
      go_ret
      exact ⟨by rw [HE.out, decide_eq_false hne]; simp [hk0], HB0.out⟩
  rw [if_neg hp] at hr
  by_cases hp2 : p = 2
  · subst hp2
    rw [if_pos rfl] at hr
    clear hp
    by_cases hm : 0 < m
    rotate_left
    · obtain rfl : r = false := by rw [← hr]; exact decide_eq_false (fun h => hm h.1)
      clear hr
      go_enter Tryd.func50, Tryd.ntmps50
      go_wp2
      go_ret
      exact ⟨rfl, HB0.out⟩
    cases hf : form a2 b2 c2 d2
    · obtain rfl : r = false := by rw [← hr]; exact decide_eq_false (fun h => by have := h.2.1; rw [Ly.wf, hf] at this; cases this)
      rw [hf] at FO
      clear hr hf
      go_enter Tryd.func50, Tryd.ntmps50
      go_wp2_with (go_at_call 26; refine (FO.out _).mono ?_; rintro e w1 ⟨rfl, hbel⟩; have HB1 : Hid (Below w.heap.size w w1) := HB0.out.trans (hbel.mono HB0.out.size); have HX1 := Lib.hid (HX0.out.below hbel (by simp)); have l0 := HX1.out 0 _ rfl; have l1 := HX1.out 1 _ rfl; have l2 := HX1.out 2 _ rfl; have l3 := HX1.out 3 _ rfl; have l4 := HX1.out 4 _ rfl; have l5 := HX1.out 5 _ rfl; have l6 := HX1.out 6 _ rfl; have l7 := HX1.out 7 _ rfl; have l8 := HX1.out 8 _ rfl; have l9 := HX1.out 9 _ rfl; have l10 := HX1.out 10 _ rfl; have l11 := HX1.out 11 _ rfl; have l12 := HX1.out 12 _ rfl; have l13 := HX1.out 13 _ rfl; have hwlt := HX1.out.lt; clear hbel)
      go_ret
      exact ⟨rfl, HB1.out⟩
    rw [hf] at FO
    obtain ⟨ee, hee⟩ : ∃ ee, decide (fs = [(⟨a2, b2, c2, d2⟩ : Ly)]) = ee := ⟨_, rfl⟩
    have HE := Lib.hid hee
    have HR : Hid (r = (ee && decide (¬ a1 = a2))) := by
      show _ = _
      rw [← hr, ← hee, ← Bool.decide_and]
      exact decide_eq_decide.2 ⟨fun h => ⟨h.2.2.1, h.2.2.2⟩, fun h => ⟨hm, hf, h.1, h.2⟩⟩
    clear hr hee hf
    by_cases ha : a1 = a2
    · subst ha
      cases ee
      all_goals
        go_enter Tryd.func50, Tryd.ntmps50
        go_wp2_with (first | (go_at_call 26; refine (FO.out _).mono ?_; rintro e w1 ⟨rfl, hbel⟩; have HB1 : Hid (Below w.heap.size w w1) := HB0.out.trans (hbel.mono HB0.out.size); have HX1 := Lib.hid (HX0.out.below hbel (by simp)); have l0 := HX1.out 0 _ rfl; have l1 := HX1.out 1 _ rfl; have l2 := HX1.out 2 _ rfl; have l3 := HX1.out 3 _ rfl; have l4 := HX1.out 4 _ rfl; have l5 := HX1.out 5 _ rfl; have l6 := HX1.out 6 _ rfl; have l7 := HX1.out 7 _ rfl; have l8 := HX1.out 8 _ rfl; have l9 := HX1.out 9 _ rfl; have l10 := HX1.out 10 _ rfl; have l11 := HX1.out 11 _ rfl; have l12 := HX1.out 12 _ rfl; have l13 := HX1.out 13 _ rfl; have hwlt := HX1.out.lt; clear hbel) | (go_at_call 51; refine (leq_any fs [⟨a1, b2, c2, d2⟩] A _ k 1 c 1 w.heap.size (w1.heap.size + 1) _ (HL.out _ (by first | exact HB1.out.alloc HB1.out.size _ | exact Below.drew (HB1.out.alloc HB1.out.size _))) (by first | exact LAt.lit w1 _ ⟨a1, b2, c2, d2⟩ | exact (LAt.lit w1 _ ⟨a1, b2, c2, d2⟩).drewN 1) hk (by decide)).mono ?_; rintro e w2 ⟨rfl, q, rfl⟩; rw [HE.out]))
        go_ret
        exact ⟨by rw [HR.out]; simp, below_ret2 HB1.out HB1.out.size _ _⟩
    · cases ee
      all_goals
        go_enter Tryd.func50, Tryd.ntmps50
        go_wp2_with (first | (go_at_call 26; refine (FO.out _).mono ?_; rintro e w1 ⟨rfl, hbel⟩; have HB1 : Hid (Below w.heap.size w w1) := HB0.out.trans (hbel.mono HB0.out.size); have HX1 := Lib.hid (HX0.out.below hbel (by simp)); have l0 := HX1.out 0 _ rfl; have l1 := HX1.out 1 _ rfl; have l2 := HX1.out 2 _ rfl; have l3 := HX1.out 3 _ rfl; have l4 := HX1.out 4 _ rfl; have l5 := HX1.out 5 _ rfl; have l6 := HX1.out 6 _ rfl; have l7 := HX1.out 7 _ rfl; have l8 := HX1.out 8 _ rfl; have l9 := HX1.out 9 _ rfl; have l10 := HX1.out 10 _ rfl; have l11 := HX1.out 11 _ rfl; have l12 := HX1.out 12 _ rfl; have l13 := HX1.out 13 _ rfl; have hwlt := HX1.out.lt; clear hbel) | (go_at_call 51; refine (leq_any fs [⟨a2, b2, c2, d2⟩] A _ k 1 c 1 w.heap.size (w1.heap.size + 1) _ (HL.out _ (by first | exact HB1.out.alloc HB1.out.size _ | exact Below.drew (HB1.out.alloc HB1.out.size _))) (by first | exact LAt.lit w1 _ ⟨a2, b2, c2, d2⟩ | exact (LAt.lit w1 _ ⟨a2, b2, c2, d2⟩).drewN 1) hk (by decide)).mono ?_; rintro e w2 ⟨rfl, q, rfl⟩; rw [HE.out]))
        go_ret
        exact ⟨by rw [HR.out]; simp [ha], below_ret2 HB1.out HB1.out.size _ _⟩
  rw [if_neg hp2] at hr
  by_cases hp3 : p = 3
  · subst hp3
    rw [if_pos rfl] at hr
    clear hp hp2
    by_cases hm : 0 < m
    rotate_left
    · obtain rfl : r = false := by rw [← hr, decide_eq_false (fun h => hm h.1)]; rfl
      clear hr
      go_enter Tryd.func50, Tryd.ntmps50
      go_wp2
      go_ret
      exact ⟨rfl, HB0.out⟩
    cases hf : form a2 b2 c2 d2
    · obtain rfl : r = false := by rw [← hr, decide_eq_false (fun h => by have := h.2; rw [Ly.wf, hf] at this; cases this)]; rfl
      rw [hf] at FO
      clear hr hf
      go_enter Tryd.func50, Tryd.ntmps50
      go_wp2_with (go_at_call 26; refine (FO.out _).mono ?_; rintro e w1 ⟨rfl, hbel⟩; have HB1 : Hid (Below w.heap.size w w1) := HB0.out.trans (hbel.mono HB0.out.size); have HX1 := Lib.hid (HX0.out.below hbel (by simp)); have l0 := HX1.out 0 _ rfl; have l1 := HX1.out 1 _ rfl; have l2 := HX1.out 2 _ rfl; have l3 := HX1.out 3 _ rfl; have l4 := HX1.out 4 _ rfl; have l5 := HX1.out 5 _ rfl; have l6 := HX1.out 6 _ rfl; have l7 := HX1.out 7 _ rfl; have l8 := HX1.out 8 _ rfl; have l9 := HX1.out 9 _ rfl; have l10 := HX1.out 10 _ rfl; have l11 := HX1.out 11 _ rfl; have l12 := HX1.out 12 _ rfl; have l13 := HX1.out 13 _ rfl; have hwlt := HX1.out.lt; clear hbel)
      go_ret
      exact ⟨rfl, HB1.out⟩
    rw [hf] at FO
    have HR : Hid (retB ⟨a1, b1, c1, d1⟩ ⟨a2, b2, c2, d2⟩ fs = r) := by
      show _ = _
      rw [decide_eq_true (show 0 < m ∧ (⟨a2, b2, c2, d2⟩ : Ly).wf = true from ⟨hm, hf⟩)] at hr
      simpa using hr
    clear hr hf
    go_enter Tryd.func50, Tryd.ntmps50
    go_wp2_with (first | (go_at_call 26; refine (FO.out _).mono ?_; rintro e w1 ⟨rfl, hbel⟩; have HB1 : Hid (Below w.heap.size w w1) := HB0.out.trans (hbel.mono HB0.out.size); have HX1 := Lib.hid (HX0.out.below hbel (by simp)); have l0 := HX1.out 0 _ rfl; have l1 := HX1.out 1 _ rfl; have l2 := HX1.out 2 _ rfl; have l3 := HX1.out 3 _ rfl; have l4 := HX1.out 4 _ rfl; have l5 := HX1.out 5 _ rfl; have l6 := HX1.out 6 _ rfl; have l7 := HX1.out 7 _ rfl; have l8 := HX1.out 8 _ rfl; have l9 := HX1.out 9 _ rfl; have l10 := HX1.out 10 _ rfl; have l11 := HX1.out 11 _ rfl; have l12 := HX1.out 12 _ rfl; have l13 := HX1.out 13 _ rfl; have hwlt := HX1.out.lt; clear hbel) | (go_at_call 62; refine (RE.out _ HB1.out).mono ?_; rw [HR.out]; rintro e w2 ⟨rfl, hbel⟩; have HB2 := Lib.hid (HB1.out.trans (hbel.mono HB1.out.size)); clear hbel))
    go_ret
    exact ⟨rfl, HB2.out⟩
  rw [if_neg hp3] at hr
  subst hr
  go_enter Tryd.func50, Tryd.ntmps50
  go_wp2
  go_ret
  exact ⟨rfl, HB0.out⟩

set_option maxRecDepth 100000 in
set_option maxHeartbeats 4000000 in
theorem svalid_any (g p m t n a1 b1 c1 d1 a2 b2 c2 d2 : Int) (fs : List Ly) (A : Option Addr) (k c B : Nat) (w : World) (hx : LAt w B A k fs) (hk : k ≤ 9223372036854775807) (hB : B ≤ w.heap.size) (hok : ∀ l ∈ fs, l.ok) (i1 : I64 a1) (i2 : I64 b1) (i3 : I64 c1) (i4 : I64 d1) (o1 : I64 a2) (o2 : I64 b2) (o3 : I64 c2) (o4 : I64 d2) (r : Bool) (hr : svalid ⟨g, p, m, t, n, ⟨a1, b1, c1, d1⟩, ⟨a2, b2, c2, d2⟩, fs⟩ = r) :
    Calls Tryd.prog 28 #[.agg #[.int .i64 g, .int .i64 p, .int .i64 m, .int .i64 t, .int .i64 n, .int .i64 a1, .int .i64 b1, .int .i64 c1, .int .i64 d1, .int .i64 a2, .int .i64 b2, .int .i64 c2, .int .i64 d2, .slice A k c]] w fun e w' => e = .returned (.bool r) ∧ Below w.heap.size w w' := by
  have HB0 : Hid (Below w.heap.size w (w.alloc (.cells #[.int .i64 g, .int .i64 p, .int .i64 m, .int .i64 t, .int .i64 n, .int .i64 a1, .int .i64 b1, .int .i64 c1, .int .i64 d1, .int .i64 a2, .int .i64 b2, .int .i64 c2, .int .i64 d2, .slice A k c] 41))) := (Below.refl _ _).alloc (Nat.le_refl _) _
  have HX0 := Lib.hid (Cells.new w 41 #[.int .i64 g, .int .i64 p, .int .i64 m, .int .i64 t, .int .i64 n, .int .i64 a1, .int .i64 b1, .int .i64 c1, .int .i64 d1, .int .i64 a2, .int .i64 b2, .int .i64 c2, .int .i64 d2, .slice A k c])
  have HL : Hid (∀ w', Below w.heap.size w w' → LAt w' w.heap.size A k fs) := fun w' hb => (hx.more hB).below hb
  have HKL : Hid (fs.length = k) := hx.1
  have FO := Lib.hid (fun w => form_any a1 b1 c1 d1 i1 i2 i3 i4 w)
  have PH := Lib.hid (fun w' hb => phase_any g p m t n a1 b1 c1 d1 a2 b2 c2 d2 fs A k c w.heap.size w' (HL.out w' hb) hk hb.size hok o1 o2 o3 o4 _ rfl)
  have NO : Hid (¬ (1 ≤ g ∧ g ≤ 1099511627775 ∧ 0 ≤ m ∧ m ≤ 4294967295 ∧ 0 ≤ t ∧ t ≤ 281474976710655 ∧ 0 ≤ n ∧ n ≤ 549755813888 ∧ form a1 b1 c1 d1 = true) → r = false) := fun h => by
    rw [← hr]
    show (decide (1 ≤ g ∧ g ≤ 1099511627775 ∧ 0 ≤ m ∧ m ≤ 4294967295 ∧ 0 ≤ t ∧ t ≤ 281474976710655 ∧ 0 ≤ n ∧ n ≤ 549755813888 ∧ form a1 b1 c1 d1 = true) && phaseB p m ⟨a1, b1, c1, d1⟩ ⟨a2, b2, c2, d2⟩ fs) = false
    rw [decide_eq_false h]; rfl
  have YES : Hid ((1 ≤ g ∧ g ≤ 1099511627775 ∧ 0 ≤ m ∧ m ≤ 4294967295 ∧ 0 ≤ t ∧ t ≤ 281474976710655 ∧ 0 ≤ n ∧ n ≤ 549755813888 ∧ form a1 b1 c1 d1 = true) → phaseB p m ⟨a1, b1, c1, d1⟩ ⟨a2, b2, c2, d2⟩ fs = r) := fun h => by
    rw [← hr]
    show _ = (decide (1 ≤ g ∧ g ≤ 1099511627775 ∧ 0 ≤ m ∧ m ≤ 4294967295 ∧ 0 ≤ t ∧ t ≤ 281474976710655 ∧ 0 ≤ n ∧ n ≤ 549755813888 ∧ form a1 b1 c1 d1 = true) && phaseB p m ⟨a1, b1, c1, d1⟩ ⟨a2, b2, c2, d2⟩ fs)
    rw [decide_eq_true h]; rfl
  clear hr hx hok hB i1 i2 i3 i4 o1 o2 o3 o4
  by_cases q0 : g < 1
  · obtain rfl := NO.out (by omega)
    go_enter Tryd.func28, Tryd.ntmps28
    go_wp2
    go_ret
    exact ⟨rfl, HB0.out⟩
  by_cases q1 : 1099511627775 < g
  · obtain rfl := NO.out (by omega)
    go_enter Tryd.func28, Tryd.ntmps28
    go_wp2
    go_ret
    exact ⟨rfl, HB0.out⟩
  by_cases q2 : m < 0
  · obtain rfl := NO.out (by omega)
    go_enter Tryd.func28, Tryd.ntmps28
    go_wp2
    go_ret
    exact ⟨rfl, HB0.out⟩
  by_cases q3 : 4294967295 < m
  · obtain rfl := NO.out (by omega)
    go_enter Tryd.func28, Tryd.ntmps28
    go_wp2
    go_ret
    exact ⟨rfl, HB0.out⟩
  by_cases q4 : t < 0
  · obtain rfl := NO.out (by omega)
    go_enter Tryd.func28, Tryd.ntmps28
    go_wp2
    go_ret
    exact ⟨rfl, HB0.out⟩
  by_cases q5 : 281474976710655 < t
  · obtain rfl := NO.out (by omega)
    go_enter Tryd.func28, Tryd.ntmps28
    go_wp2
    go_ret
    exact ⟨rfl, HB0.out⟩
  by_cases q6 : n < 0
  · obtain rfl := NO.out (by omega)
    go_enter Tryd.func28, Tryd.ntmps28
    go_wp2
    go_ret
    exact ⟨rfl, HB0.out⟩
  by_cases q7 : 549755813888 < n
  · obtain rfl := NO.out (by omega)
    go_enter Tryd.func28, Tryd.ntmps28
    go_wp2
    go_ret
    exact ⟨rfl, HB0.out⟩
  cases hf : form a1 b1 c1 d1
  · obtain rfl := NO.out (by rw [hf]; simp)
    rw [hf] at FO
    clear hf
    go_enter Tryd.func28, Tryd.ntmps28
    go_wp2_with (go_at_call 26; refine (FO.out _).mono ?_; rintro e w1 ⟨rfl, hbel⟩; have HB1 : Hid (Below w.heap.size w w1) := HB0.out.trans (hbel.mono HB0.out.size); have HX1 := Lib.hid (HX0.out.below hbel (by simp)); have l0 := HX1.out 0 _ rfl; have l1 := HX1.out 1 _ rfl; have l2 := HX1.out 2 _ rfl; have l3 := HX1.out 3 _ rfl; have l4 := HX1.out 4 _ rfl; have l5 := HX1.out 5 _ rfl; have l6 := HX1.out 6 _ rfl; have l7 := HX1.out 7 _ rfl; have l8 := HX1.out 8 _ rfl; have l9 := HX1.out 9 _ rfl; have l10 := HX1.out 10 _ rfl; have l11 := HX1.out 11 _ rfl; have l12 := HX1.out 12 _ rfl; have l13 := HX1.out 13 _ rfl; have hwlt := HX1.out.lt; clear hbel)
    go_ret
    exact ⟨rfl, HB1.out⟩
  have HR := Lib.hid (YES.out ⟨by omega, by omega, by omega, by omega, by omega, by omega, by omega, by omega, hf⟩)
  rw [hf] at FO
  clear hf
  go_enter Tryd.func28, Tryd.ntmps28
  go_wp2_with (first | (go_at_call 26; refine (FO.out _).mono ?_; rintro e w1 ⟨rfl, hbel⟩; have HB1 : Hid (Below w.heap.size w w1) := HB0.out.trans (hbel.mono HB0.out.size); have HX1 := Lib.hid (HX0.out.below hbel (by simp)); have l0 := HX1.out 0 _ rfl; have l1 := HX1.out 1 _ rfl; have l2 := HX1.out 2 _ rfl; have l3 := HX1.out 3 _ rfl; have l4 := HX1.out 4 _ rfl; have l5 := HX1.out 5 _ rfl; have l6 := HX1.out 6 _ rfl; have l7 := HX1.out 7 _ rfl; have l8 := HX1.out 8 _ rfl; have l9 := HX1.out 9 _ rfl; have l10 := HX1.out 10 _ rfl; have l11 := HX1.out 11 _ rfl; have l12 := HX1.out 12 _ rfl; have l13 := HX1.out 13 _ rfl; have hwlt := HX1.out.lt; clear hbel) | (go_at_call 50; refine (PH.out _ HB1.out).mono ?_; rw [HR.out]; rintro e w2 ⟨rfl, hbel⟩; have HB2 := Lib.hid (HB1.out.trans (hbel.mono HB1.out.size)); clear hbel))
  go_ret
  exact ⟨rfl, HB2.out⟩

end Go.Proofs.YthjnbdbbeidhgaaDoor
