/- The reference's Valid. -/
import Derived.Test.YthjnbdbbeidhgaaDoorSupVal
import Derived.Lib.QuietBelow
import Derived.BigQuiet
import Derived.Deep.DeepCutAuto
namespace Go.Proofs.YthjnbdbbeidhgaaDoor
open Go.RowKit

theorem below_of_regrown {w w' : World} (h : ∃ p : Regrown, w' = Go.Sort.grow (redrawn w p.d) p.os) : Below w.heap.size w w' := by
  obtain ⟨p, rfl⟩ := h
  exact below_regrown _ _ _

/-- Three new blocks. -/
theorem cells3 (w : World) (ty : TypeId) (x y z : Array Value) : Cells ((((w.alloc (.cells x ty)).alloc (.cells y ty)).alloc (.cells z ty)).drew) w.heap.size x.toList ∧ Cells ((((w.alloc (.cells x ty)).alloc (.cells y ty)).alloc (.cells z ty)).drew) (w.heap.size + 1) y.toList ∧
    Cells ((((w.alloc (.cells x ty)).alloc (.cells y ty)).alloc (.cells z ty)).drew) (w.heap.size + 1 + 1) z.toList ∧ Below w.heap.size w ((((w.alloc (.cells x ty)).alloc (.cells y ty)).alloc (.cells z ty)).drew) := by
  have b1 : Below (w.alloc (.cells x ty)).heap.size (w.alloc (.cells x ty)) ((w.alloc (.cells x ty)).alloc (.cells y ty)) := (Below.refl _ _).alloc (Nat.le_refl _) _
  have b2 : Below ((w.alloc (.cells x ty)).alloc (.cells y ty)).heap.size ((w.alloc (.cells x ty)).alloc (.cells y ty)) ((((w.alloc (.cells x ty)).alloc (.cells y ty)).alloc (.cells z ty)).drew) := Below.drew ((Below.refl _ _).alloc (Nat.le_refl _) _)
  have s1 : (w.alloc (.cells x ty)).heap.size = w.heap.size + 1 := by simp
  have s2 : ((w.alloc (.cells x ty)).alloc (.cells y ty)).heap.size = w.heap.size + 1 + 1 := by simp
  have c1 := Cells.new w ty x
  have c2 := Cells.new (w.alloc (.cells x ty)) ty y
  have c3 := Cells.new ((w.alloc (.cells x ty)).alloc (.cells y ty)) ty z
  rw [s1] at c2
  rw [s2] at c3
  refine ⟨(c1.below b1 (by rw [s1]; omega)).below b2 (by rw [s2]; omega), c2.below b2 (by rw [s2]; omega), c3, ?_⟩
  exact Below.drew (((Below.refl _ _).alloc (Nat.le_refl _) _).alloc (by rw [s1]; omega) _ |>.alloc (by rw [s2]; omega) _)

set_option maxRecDepth 100000 in
set_option maxHeartbeats 8000000 in
theorem refSValid_12 (g p m t n a1 b1 c1 d1 a2 b2 c2 d2 : Int) (fs : List Ly) (A : Option Addr) (k c B : Nat) (w : World) (hx : LAt w B A k fs) (hk : k ≤ 9223372036854775807) (hB : B ≤ w.heap.size) (hok : ∀ l ∈ fs, l.ok) (i1 : I64 a1) (i2 : I64 b1) (i3 : I64 c1) (i4 : I64 d1) (o1 : I64 a2) (o2 : I64 b2) (o3 : I64 c2) (o4 : I64 d2) (hp3 : ¬ p = 3) (r : Bool) (hr : svalid ⟨g, p, m, t, n, ⟨a1, b1, c1, d1⟩, ⟨a2, b2, c2, d2⟩, fs⟩ = r) :
    Calls Tryd.prog 20 #[.agg #[.int .i64 g, .int .i64 p, .int .i64 m, .int .i64 t, .int .i64 n, .int .i64 a1, .int .i64 b1, .int .i64 c1, .int .i64 d1, .int .i64 a2, .int .i64 b2, .int .i64 c2, .int .i64 d2, .slice A k c]] w fun e w' => e = .returned (.bool r) ∧ Below w.heap.size w w' := by
  have HB0 : Hid (Below w.heap.size w (w.alloc (.cells #[.int .i64 g, .int .i64 p, .int .i64 m, .int .i64 t, .int .i64 n, .int .i64 a1, .int .i64 b1, .int .i64 c1, .int .i64 d1, .int .i64 a2, .int .i64 b2, .int .i64 c2, .int .i64 d2, .slice A k c] 41))) := (Below.refl _ _).alloc (Nat.le_refl _) _
  have HX0 := Lib.hid (Cells.new w 41 #[.int .i64 g, .int .i64 p, .int .i64 m, .int .i64 t, .int .i64 n, .int .i64 a1, .int .i64 b1, .int .i64 c1, .int .i64 d1, .int .i64 a2, .int .i64 b2, .int .i64 c2, .int .i64 d2, .slice A k c])
  have HL : Hid (∀ w', Below w.heap.size w w' → LAt w' w.heap.size A k fs) := fun w' hb => (hx.more hB).below hb
  have HKL : Hid (fs.length = k) := hx.1
  have FO := Lib.hid (fun w => refForm_any a1 b1 c1 d1 i1 i2 i3 i4 w)
  have FH := Lib.hid (fun w => refForm_any a2 b2 c2 d2 o1 o2 o3 o4 w)
  have HOK := Lib.hid hok
  have NO : Hid (¬ (1 ≤ g ∧ g ≤ 1099511627775 ∧ 0 ≤ m ∧ m ≤ 4294967295 ∧ 0 ≤ t ∧ t ≤ 281474976710655 ∧ 0 ≤ n ∧ n ≤ 549755813888 ∧ form a1 b1 c1 d1 = true) → r = false) := fun h => by
    rw [← hr]
    show (decide (1 ≤ g ∧ g ≤ 1099511627775 ∧ 0 ≤ m ∧ m ≤ 4294967295 ∧ 0 ≤ t ∧ t ≤ 281474976710655 ∧ 0 ≤ n ∧ n ≤ 549755813888 ∧ form a1 b1 c1 d1 = true) && phaseB p m ⟨a1, b1, c1, d1⟩ ⟨a2, b2, c2, d2⟩ fs) = false
    rw [decide_eq_false h]; rfl
  have YES : Hid ((1 ≤ g ∧ g ≤ 1099511627775 ∧ 0 ≤ m ∧ m ≤ 4294967295 ∧ 0 ≤ t ∧ t ≤ 281474976710655 ∧ 0 ≤ n ∧ n ≤ 549755813888 ∧ form a1 b1 c1 d1 = true) → phaseB p m ⟨a1, b1, c1, d1⟩ ⟨a2, b2, c2, d2⟩ fs = r) := fun h => by
    rw [← hr]
    show _ = (decide (1 ≤ g ∧ g ≤ 1099511627775 ∧ 0 ≤ m ∧ m ≤ 4294967295 ∧ 0 ≤ t ∧ t ≤ 281474976710655 ∧ 0 ≤ n ∧ n ≤ 549755813888 ∧ form a1 b1 c1 d1 = true) && phaseB p m ⟨a1, b1, c1, d1⟩ ⟨a2, b2, c2, d2⟩ fs)
    rw [decide_eq_true h]; rfl
  clear hr hx hok hB i1 i2 i3 i4 o1 o2 o3 o4
  by_cases q0 : g < 1
  · obtain rfl := NO.out (by omega)
    go_enter Tryd.func20, Tryd.ntmps20
    go_wp2
    go_ret
    exact ⟨rfl, HB0.out⟩
  by_cases q1 : 1099511627775 < g
  · obtain rfl := NO.out (by omega)
    go_enter Tryd.func20, Tryd.ntmps20
    go_wp2
    go_ret
    exact ⟨rfl, HB0.out⟩
  by_cases q2 : m < 0
  · obtain rfl := NO.out (by omega)
    go_enter Tryd.func20, Tryd.ntmps20
    go_wp2
    go_ret
    exact ⟨rfl, HB0.out⟩
  by_cases q3 : 4294967295 < m
  · obtain rfl := NO.out (by omega)
    go_enter Tryd.func20, Tryd.ntmps20
    go_wp2
    go_ret
    exact ⟨rfl, HB0.out⟩
  by_cases q4 : t < 0
  · obtain rfl := NO.out (by omega)
    go_enter Tryd.func20, Tryd.ntmps20
    go_wp2
    go_ret
    exact ⟨rfl, HB0.out⟩
  by_cases q5 : 281474976710655 < t
  · obtain rfl := NO.out (by omega)
    go_enter Tryd.func20, Tryd.ntmps20
    go_wp2
    go_ret
    exact ⟨rfl, HB0.out⟩
  by_cases q6 : n < 0
  · obtain rfl := NO.out (by omega)
    go_enter Tryd.func20, Tryd.ntmps20
    go_wp2
    go_ret
    exact ⟨rfl, HB0.out⟩
  by_cases q7 : 549755813888 < n
  · obtain rfl := NO.out (by omega)
    go_enter Tryd.func20, Tryd.ntmps20
    go_wp2
    go_ret
    exact ⟨rfl, HB0.out⟩
  cases hf : form a1 b1 c1 d1
  · obtain rfl := NO.out (by rw [hf]; simp)
    rw [hf] at FO
    clear hf
    go_enter Tryd.func20, Tryd.ntmps20
    go_wp2_with (go_at_call 27; refine (FO.out _).mono ?_; rintro e w1 ⟨rfl, hbel⟩; have HB1 : Hid (Below w.heap.size w w1) := HB0.out.trans (hbel.mono HB0.out.size); have HX1 := Lib.hid (HX0.out.below hbel (by simp)); have l0 := HX1.out 0 _ rfl; have l1 := HX1.out 1 _ rfl; have l2 := HX1.out 2 _ rfl; have l3 := HX1.out 3 _ rfl; have l4 := HX1.out 4 _ rfl; have l5 := HX1.out 5 _ rfl; have l6 := HX1.out 6 _ rfl; have l7 := HX1.out 7 _ rfl; have l8 := HX1.out 8 _ rfl; have l9 := HX1.out 9 _ rfl; have l10 := HX1.out 10 _ rfl; have l11 := HX1.out 11 _ rfl; have l12 := HX1.out 12 _ rfl; have l13 := HX1.out 13 _ rfl; have hwlt := HX1.out.lt; clear hbel)
    go_ret
    exact ⟨rfl, HB1.out⟩
  have hr := YES.out ⟨by omega, by omega, by omega, by omega, by omega, by omega, by omega, by omega, hf⟩
  rw [hf] at FO
  clear NO YES hf
  unfold phaseB at hr
  have HR := Lib.hid hr
  clear hr
  go_enter Tryd.func20, Tryd.ntmps20
  go_upto_region 3 with (go_at_call 27; refine (FO.out _).mono ?_; rintro e w1 ⟨rfl, hbel⟩; have HB1 : Hid (Below w.heap.size w w1) := HB0.out.trans (hbel.mono HB0.out.size); have HX1 := Lib.hid (HX0.out.below hbel (by simp)); have l0 := HX1.out 0 _ rfl; have l1 := HX1.out 1 _ rfl; have l2 := HX1.out 2 _ rfl; have l3 := HX1.out 3 _ rfl; have l4 := HX1.out 4 _ rfl; have l5 := HX1.out 5 _ rfl; have l6 := HX1.out 6 _ rfl; have l7 := HX1.out 7 _ rfl; have l8 := HX1.out 8 _ rfl; have l9 := HX1.out 9 _ rfl; have l10 := HX1.out 10 _ rfl; have l11 := HX1.out 11 _ rfl; have l12 := HX1.out 12 _ rfl; have l13 := HX1.out 13 _ rfl; have hwlt := HX1.out.lt; clear hbel)
  by_cases hp : p = 1
  · subst hp
    have hr := HR.out
    rw [if_pos rfl] at hr
    clear HR
    by_cases hz : a2 = 0 ∧ b2 = 0 ∧ c2 = 0 ∧ d2 = 0
    rotate_left
    · obtain rfl : r = false := by
        rw [← hr]
        refine decide_eq_false fun h => hz ?_
        have := h.1
        injection this with e1 e2 e3 e4
        exact ⟨e1, e2, e3, e4⟩
      clear hr
      rcases ne_first hz with hne | ⟨rfl, hne⟩ | ⟨rfl, rfl, hne⟩ | ⟨rfl, rfl, rfl, hne⟩
      all_goals
        clear hz
        go_wp2
        go_ret
        exact ⟨rfl, HB1.out⟩
    obtain ⟨rfl, rfl, rfl, rfl⟩ := hz
    have HE : Hid (r = decide ((k : Int) = 0)) := by
      show _ = _
      rw [← hr]
      refine decide_eq_decide.2 ⟨fun h => ?_, fun h => ⟨rfl, List.eq_nil_of_length_eq_zero (by rw [HKL.out]; omega)⟩⟩
      have := HKL.out
      rw [h.2] at this
      simp at this
      omega
    clear hr
    by_cases hk0 : k = 0
    · subst hk0
      go_wp2
      go_ret
      exact ⟨by rw [HE.out]; rfl, HB1.out⟩
    · have hne : ¬ (k : Int) = 0 := by omega
      go_wp2
      go_ret
      exact ⟨by rw [HE.out, decide_eq_false hne]; simp [hk0], HB1.out⟩
  by_cases hp2 : p = 2
  · subst hp2
    have hr := HR.out
    rw [if_neg (by decide), if_pos rfl] at hr
    clear HR hp
    go_upto_region 7 with fail
    go_cut [2] (fun v wx => v = .bool r ∧ Below w.heap.size w wx)
    case rest =>
      obtain ⟨rfl, hbel⟩ := hcut
      have HZ := Lib.hid hbel
      clear hbel
      go_wp2_with fail
      go_ret
      exact ⟨rfl, HZ.out⟩
    case first =>
      have g0 := fun d os => cell_regrown (HX1.out 0 _ rfl) d os
      have g1 := fun d os => cell_regrown (HX1.out 1 _ rfl) d os
      have g2 := fun d os => cell_regrown (HX1.out 2 _ rfl) d os
      have g3 := fun d os => cell_regrown (HX1.out 3 _ rfl) d os
      have g4 := fun d os => cell_regrown (HX1.out 4 _ rfl) d os
      have g5 := fun d os => cell_regrown (HX1.out 5 _ rfl) d os
      have g6 := fun d os => cell_regrown (HX1.out 6 _ rfl) d os
      have g7 := fun d os => cell_regrown (HX1.out 7 _ rfl) d os
      have g8 := fun d os => cell_regrown (HX1.out 8 _ rfl) d os
      have g9 := fun d os => cell_regrown (HX1.out 9 _ rfl) d os
      have g10 := fun d os => cell_regrown (HX1.out 10 _ rfl) d os
      have g11 := fun d os => cell_regrown (HX1.out 11 _ rfl) d os
      have g12 := fun d os => cell_regrown (HX1.out 12 _ rfl) d os
      have g13 := fun d os => cell_regrown (HX1.out 13 _ rfl) d os
      clear l0 l1 l2 l3 l4 l5 l6 l7 l8 l9 l10 l11 l12 l13
      by_cases hm : 0 < m
      rotate_left
      · obtain rfl : r = false := by rw [← hr]; exact decide_eq_false (fun h => hm h.1)
        clear hr
        have hm2 : decide (0 < m) = false := decide_eq_false hm
        refine wp_region_quiet_below (by kernel_rfl) (by kernel_rfl) ?_
        repeat (first | go_big_quiet_step ((first | (go_at_call 27; exact Calls.regrown_of (FH.out _)))) | quiet_step ((first | (go_at_call 27; exact Calls.regrown_of (FH.out _)))))
        refine wpQuiet_nil ?_
        intro _ hw'
        obtain ⟨⟨dq, osq⟩, hw''⟩ := hw'
        subst hw''
        (try go_wp2_with fail)
        (try go_simp)
        go_meet
        exact ⟨rfl, HB1.out.trans ((below_regrown w1 dq osq).mono HB1.out.size)⟩
      have hm2 : decide (0 < m) = true := decide_eq_true hm
      cases hf2 : form a2 b2 c2 d2
      · obtain rfl : r = false := by rw [← hr]; exact decide_eq_false (fun h => by have := h.2.1; rw [Ly.wf, hf2] at this; cases this)
        rw [hf2] at FH
        clear hr hf2
        refine wp_region_quiet_below (by kernel_rfl) (by kernel_rfl) ?_
        repeat (first | go_big_quiet_step ((first | (go_at_call 27; exact Calls.regrown_of (FH.out _)))) | quiet_step ((first | (go_at_call 27; exact Calls.regrown_of (FH.out _)))))
        refine wpQuiet_nil ?_
        intro _ hw'
        obtain ⟨⟨dq, osq⟩, hw''⟩ := hw'
        subst hw''
        (try go_wp2_with fail)
        (try go_simp)
        go_meet
        exact ⟨rfl, HB1.out.trans ((below_regrown w1 dq osq).mono HB1.out.size)⟩
      rw [hf2] at FH
      have hrA : ∀ (q : Prop), (fs = [⟨a2, b2, c2, d2⟩] ∧ ¬ a1 = a2 → q) → ¬ q → r = false := fun q h hn => by rw [← hr]; exact decide_eq_false (fun hh => hn (h hh.2.2))
      have hrB : fs = [⟨a2, b2, c2, d2⟩] → ¬ a1 = a2 → r = true := fun h h2 => by rw [← hr]; exact decide_eq_true ⟨hm, hf2, h, h2⟩
      clear hr hf2
      by_cases hk1 : k = 1
      rotate_left
      · obtain rfl : r = false := hrA (k = 1) (fun h => by rw [← HKL.out, h.1]; rfl) hk1
        have hk2 : ((k : Int) == 1) = false := by simp; omega
        clear hrA hrB hk1
        refine wp_region_quiet_below (by kernel_rfl) (by kernel_rfl) ?_
        repeat (first | go_big_quiet_step ((first | (go_at_call 27; exact Calls.regrown_of (FH.out _)))) | quiet_step ((first | (go_at_call 27; exact Calls.regrown_of (FH.out _)))))
        refine wpQuiet_nil ?_
        intro _ hw'
        obtain ⟨⟨dq, osq⟩, hw''⟩ := hw'
        subst hw''
        (try go_wp2_with fail)
        (try go_simp)
        go_meet
        exact ⟨rfl, HB1.out.trans ((below_regrown w1 dq osq).mono HB1.out.size)⟩
      subst hk1
      obtain ⟨x, hx⟩ : ∃ x, fs = [x] := by
        have := HKL.out
        match fs, this with
        | [x], _ => exact ⟨x, rfl⟩
      subst hx
      obtain ⟨ad, rfl, hadl, y0, y1, y2, y3⟩ := (HL.out _ HB1.out).one
      have e0 := fun d os => cell_regrown y0 d os
      have e1 := fun d os => cell_regrown y1 d os
      have e2 := fun d os => cell_regrown y2 d os
      have e3 := fun d os => cell_regrown y3 d os
      obtain ⟨xa, xb, xc, xd⟩ := x
      dsimp only at e0 e1 e2 e3
      clear y0 y1 y2 y3
      by_cases hxh : xa = a2 ∧ xb = b2 ∧ xc = c2 ∧ xd = d2
      rotate_left
      · obtain rfl : r = false := hrA (xa = a2 ∧ xb = b2 ∧ xc = c2 ∧ xd = d2) (fun h => by have h1 := h.1; injection h1 with h1 _; injection h1 with e0 e1 e2 e3; exact ⟨e0, e1, e2, e3⟩) hxh
        clear hrA hrB
        rcases ne_first hxh with hne | ⟨rfl, hne⟩ | ⟨rfl, rfl, hne⟩ | ⟨rfl, rfl, rfl, hne⟩
        all_goals
          clear hxh
          refine wp_region_quiet_below (by kernel_rfl) (by kernel_rfl) ?_
          repeat (first | go_big_quiet_step ((first | (go_at_call 27; exact Calls.regrown_of (FH.out _)))) | quiet_step ((first | (go_at_call 27; exact Calls.regrown_of (FH.out _)))))
          refine wpQuiet_nil ?_
          intro _ hw'
          obtain ⟨⟨dq, osq⟩, hw''⟩ := hw'
          subst hw''
          (try go_wp2_with fail)
          (try go_simp)
          go_meet
          exact ⟨rfl, HB1.out.trans ((below_regrown w1 dq osq).mono HB1.out.size)⟩
      obtain ⟨rfl, rfl, rfl, rfl⟩ := hxh
      by_cases ha : a1 = xa
      · obtain rfl : r = false := hrA (¬ a1 = xa) (fun h => h.2) (fun h => h ha)
        clear hrA hrB
        subst ha
        refine wp_region_quiet_below (by kernel_rfl) (by kernel_rfl) ?_
        repeat (first | go_big_quiet_step ((first | (go_at_call 27; exact Calls.regrown_of (FH.out _)))) | quiet_step ((first | (go_at_call 27; exact Calls.regrown_of (FH.out _)))))
        refine wpQuiet_nil ?_
        intro _ hw'
        obtain ⟨⟨dq, osq⟩, hw''⟩ := hw'
        subst hw''
        (try go_wp2_with fail)
        (try go_simp)
        go_meet
        exact ⟨rfl, HB1.out.trans ((below_regrown w1 dq osq).mono HB1.out.size)⟩
      · obtain rfl : r = true := hrB rfl ha
        clear hrA hrB
        have ha2 : (a1 != xa) = true := by simp [ha]
        refine wp_region_quiet_below (by kernel_rfl) (by kernel_rfl) ?_
        repeat (first | go_big_quiet_step ((first | (go_at_call 27; exact Calls.regrown_of (FH.out _)))) | quiet_step ((first | (go_at_call 27; exact Calls.regrown_of (FH.out _)))))
        refine wpQuiet_nil ?_
        intro _ hw'
        obtain ⟨⟨dq, osq⟩, hw''⟩ := hw'
        subst hw''
        (try go_wp2_with fail)
        (try go_simp)
        go_meet
        exact ⟨rfl, HB1.out.trans ((below_regrown w1 dq osq).mono HB1.out.size)⟩
  have hr := HR.out
  rw [if_neg hp, if_neg hp2, if_neg hp3] at hr
  subst hr
  clear HR
  go_wp2
  go_ret
  exact ⟨rfl, HB1.out⟩

set_option maxRecDepth 100000 in
set_option maxHeartbeats 8000000 in
theorem refSValid_3bad (g m t n a1 b1 c1 d1 a2 b2 c2 d2 : Int) (fs : List Ly) (A : Option Addr) (k c B : Nat) (w : World) (hx : LAt w B A k fs) (hk : k ≤ 9223372036854775807) (hB : B ≤ w.heap.size) (hok : ∀ l ∈ fs, l.ok) (i1 : I64 a1) (i2 : I64 b1) (i3 : I64 c1) (i4 : I64 d1) (o1 : I64 a2) (o2 : I64 b2) (o3 : I64 c2) (o4 : I64 d2) (hbad : ¬ (0 < m ∧ form a2 b2 c2 d2 = true ∧ ∃ F : Ly, fs = [⟨a2, b2, c2, d2⟩, F] ∧ F.wf = true)) (r : Bool) (hr : svalid ⟨g, 3, m, t, n, ⟨a1, b1, c1, d1⟩, ⟨a2, b2, c2, d2⟩, fs⟩ = r) :
    Calls Tryd.prog 20 #[.agg #[.int .i64 g, .int .i64 3, .int .i64 m, .int .i64 t, .int .i64 n, .int .i64 a1, .int .i64 b1, .int .i64 c1, .int .i64 d1, .int .i64 a2, .int .i64 b2, .int .i64 c2, .int .i64 d2, .slice A k c]] w fun e w' => e = .returned (.bool r) ∧ Below w.heap.size w w' := by
  have HB0 : Hid (Below w.heap.size w (w.alloc (.cells #[.int .i64 g, .int .i64 3, .int .i64 m, .int .i64 t, .int .i64 n, .int .i64 a1, .int .i64 b1, .int .i64 c1, .int .i64 d1, .int .i64 a2, .int .i64 b2, .int .i64 c2, .int .i64 d2, .slice A k c] 41))) := (Below.refl _ _).alloc (Nat.le_refl _) _
  have HX0 := Lib.hid (Cells.new w 41 #[.int .i64 g, .int .i64 3, .int .i64 m, .int .i64 t, .int .i64 n, .int .i64 a1, .int .i64 b1, .int .i64 c1, .int .i64 d1, .int .i64 a2, .int .i64 b2, .int .i64 c2, .int .i64 d2, .slice A k c])
  have HL : Hid (∀ w', Below w.heap.size w w' → LAt w' w.heap.size A k fs) := fun w' hb => (hx.more hB).below hb
  have HKL : Hid (fs.length = k) := hx.1
  have FO := Lib.hid (fun w => refForm_any a1 b1 c1 d1 i1 i2 i3 i4 w)
  have FH := Lib.hid (fun w => refForm_any a2 b2 c2 d2 o1 o2 o3 o4 w)
  have HOK := Lib.hid hok
  have NO : Hid (¬ (1 ≤ g ∧ g ≤ 1099511627775 ∧ 0 ≤ m ∧ m ≤ 4294967295 ∧ 0 ≤ t ∧ t ≤ 281474976710655 ∧ 0 ≤ n ∧ n ≤ 549755813888 ∧ form a1 b1 c1 d1 = true) → r = false) := fun h => by
    rw [← hr]
    show (decide (1 ≤ g ∧ g ≤ 1099511627775 ∧ 0 ≤ m ∧ m ≤ 4294967295 ∧ 0 ≤ t ∧ t ≤ 281474976710655 ∧ 0 ≤ n ∧ n ≤ 549755813888 ∧ form a1 b1 c1 d1 = true) && phaseB 3 m ⟨a1, b1, c1, d1⟩ ⟨a2, b2, c2, d2⟩ fs) = false
    rw [decide_eq_false h]; rfl
  have YES : Hid ((1 ≤ g ∧ g ≤ 1099511627775 ∧ 0 ≤ m ∧ m ≤ 4294967295 ∧ 0 ≤ t ∧ t ≤ 281474976710655 ∧ 0 ≤ n ∧ n ≤ 549755813888 ∧ form a1 b1 c1 d1 = true) → phaseB 3 m ⟨a1, b1, c1, d1⟩ ⟨a2, b2, c2, d2⟩ fs = r) := fun h => by
    rw [← hr]
    show _ = (decide (1 ≤ g ∧ g ≤ 1099511627775 ∧ 0 ≤ m ∧ m ≤ 4294967295 ∧ 0 ≤ t ∧ t ≤ 281474976710655 ∧ 0 ≤ n ∧ n ≤ 549755813888 ∧ form a1 b1 c1 d1 = true) && phaseB 3 m ⟨a1, b1, c1, d1⟩ ⟨a2, b2, c2, d2⟩ fs)
    rw [decide_eq_true h]; rfl
  clear hr hx hok hB i1 i2 i3 i4 o1 o2 o3 o4
  by_cases q0 : g < 1
  · obtain rfl := NO.out (by omega)
    go_enter Tryd.func20, Tryd.ntmps20
    go_wp2
    go_ret
    exact ⟨rfl, HB0.out⟩
  by_cases q1 : 1099511627775 < g
  · obtain rfl := NO.out (by omega)
    go_enter Tryd.func20, Tryd.ntmps20
    go_wp2
    go_ret
    exact ⟨rfl, HB0.out⟩
  by_cases q2 : m < 0
  · obtain rfl := NO.out (by omega)
    go_enter Tryd.func20, Tryd.ntmps20
    go_wp2
    go_ret
    exact ⟨rfl, HB0.out⟩
  by_cases q3 : 4294967295 < m
  · obtain rfl := NO.out (by omega)
    go_enter Tryd.func20, Tryd.ntmps20
    go_wp2
    go_ret
    exact ⟨rfl, HB0.out⟩
  by_cases q4 : t < 0
  · obtain rfl := NO.out (by omega)
    go_enter Tryd.func20, Tryd.ntmps20
    go_wp2
    go_ret
    exact ⟨rfl, HB0.out⟩
  by_cases q5 : 281474976710655 < t
  · obtain rfl := NO.out (by omega)
    go_enter Tryd.func20, Tryd.ntmps20
    go_wp2
    go_ret
    exact ⟨rfl, HB0.out⟩
  by_cases q6 : n < 0
  · obtain rfl := NO.out (by omega)
    go_enter Tryd.func20, Tryd.ntmps20
    go_wp2
    go_ret
    exact ⟨rfl, HB0.out⟩
  by_cases q7 : 549755813888 < n
  · obtain rfl := NO.out (by omega)
    go_enter Tryd.func20, Tryd.ntmps20
    go_wp2
    go_ret
    exact ⟨rfl, HB0.out⟩
  cases hf : form a1 b1 c1 d1
  · obtain rfl := NO.out (by rw [hf]; simp)
    rw [hf] at FO
    clear hf
    go_enter Tryd.func20, Tryd.ntmps20
    go_wp2_with (go_at_call 27; refine (FO.out _).mono ?_; rintro e w1 ⟨rfl, hbel⟩; have HB1 : Hid (Below w.heap.size w w1) := HB0.out.trans (hbel.mono HB0.out.size); have HX1 := Lib.hid (HX0.out.below hbel (by simp)); have l0 := HX1.out 0 _ rfl; have l1 := HX1.out 1 _ rfl; have l2 := HX1.out 2 _ rfl; have l3 := HX1.out 3 _ rfl; have l4 := HX1.out 4 _ rfl; have l5 := HX1.out 5 _ rfl; have l6 := HX1.out 6 _ rfl; have l7 := HX1.out 7 _ rfl; have l8 := HX1.out 8 _ rfl; have l9 := HX1.out 9 _ rfl; have l10 := HX1.out 10 _ rfl; have l11 := HX1.out 11 _ rfl; have l12 := HX1.out 12 _ rfl; have l13 := HX1.out 13 _ rfl; have hwlt := HX1.out.lt; clear hbel)
    go_ret
    exact ⟨rfl, HB1.out⟩
  have hr := YES.out ⟨by omega, by omega, by omega, by omega, by omega, by omega, by omega, by omega, hf⟩
  rw [hf] at FO
  clear NO YES hf
  unfold phaseB at hr
  have HR := Lib.hid hr
  clear hr
  go_enter Tryd.func20, Tryd.ntmps20
  go_upto_region 3 with (go_at_call 27; refine (FO.out _).mono ?_; rintro e w1 ⟨rfl, hbel⟩; have HB1 : Hid (Below w.heap.size w w1) := HB0.out.trans (hbel.mono HB0.out.size); have HX1 := Lib.hid (HX0.out.below hbel (by simp)); have l0 := HX1.out 0 _ rfl; have l1 := HX1.out 1 _ rfl; have l2 := HX1.out 2 _ rfl; have l3 := HX1.out 3 _ rfl; have l4 := HX1.out 4 _ rfl; have l5 := HX1.out 5 _ rfl; have l6 := HX1.out 6 _ rfl; have l7 := HX1.out 7 _ rfl; have l8 := HX1.out 8 _ rfl; have l9 := HX1.out 9 _ rfl; have l10 := HX1.out 10 _ rfl; have l11 := HX1.out 11 _ rfl; have l12 := HX1.out 12 _ rfl; have l13 := HX1.out 13 _ rfl; have hwlt := HX1.out.lt; clear hbel)
  have hr := HR.out
  rw [if_neg (by decide), if_neg (by decide), if_pos trivial] at hr
  clear HR
  go_upto_region 9 with fail
  have g0 := fun d os => cell_regrown (HX1.out 0 _ rfl) d os
  have g1 := fun d os => cell_regrown (HX1.out 1 _ rfl) d os
  have g2 := fun d os => cell_regrown (HX1.out 2 _ rfl) d os
  have g3 := fun d os => cell_regrown (HX1.out 3 _ rfl) d os
  have g4 := fun d os => cell_regrown (HX1.out 4 _ rfl) d os
  have g5 := fun d os => cell_regrown (HX1.out 5 _ rfl) d os
  have g6 := fun d os => cell_regrown (HX1.out 6 _ rfl) d os
  have g7 := fun d os => cell_regrown (HX1.out 7 _ rfl) d os
  have g8 := fun d os => cell_regrown (HX1.out 8 _ rfl) d os
  have g9 := fun d os => cell_regrown (HX1.out 9 _ rfl) d os
  have g10 := fun d os => cell_regrown (HX1.out 10 _ rfl) d os
  have g11 := fun d os => cell_regrown (HX1.out 11 _ rfl) d os
  have g12 := fun d os => cell_regrown (HX1.out 12 _ rfl) d os
  have g13 := fun d os => cell_regrown (HX1.out 13 _ rfl) d os
  clear l0 l1 l2 l3 l4 l5 l6 l7 l8 l9 l10 l11 l12 l13
  by_cases hm : 0 < m
  rotate_left
  · obtain rfl : r = false := by rw [← hr, decide_eq_false (fun h => hm h.1)]; rfl
    clear hr
    have hm2 : (m == 0) = true := by simp; omega
    refine wp_region_quiet_below (by kernel_rfl) (by kernel_rfl) ?_
    repeat (first | go_big_quiet_step ((first | (go_at_call 27; exact Calls.regrown_of (FH.out _)))) | quiet_step ((first | (go_at_call 27; exact Calls.regrown_of (FH.out _)))))
    refine wpQuiet_nil ?_
    intro _ hw'
    obtain ⟨⟨dq, osq⟩, hw''⟩ := hw'
    subst hw''
    go_wp2_with fail
    go_ret
    exact ⟨rfl, HB1.out.trans ((below_regrown w1 dq osq).mono HB1.out.size)⟩
  have hm2 : (m == 0) = false := by simp; omega
  cases hf2 : form a2 b2 c2 d2
  · obtain rfl : r = false := by rw [← hr, decide_eq_false (fun h => by have := h.2; rw [Ly.wf, hf2] at this; cases this)]; rfl
    rw [hf2] at FH
    clear hr hf2
    refine wp_region_quiet_below (by kernel_rfl) (by kernel_rfl) ?_
    repeat (first | go_big_quiet_step ((first | (go_at_call 27; exact Calls.regrown_of (FH.out _)))) | quiet_step ((first | (go_at_call 27; exact Calls.regrown_of (FH.out _)))))
    refine wpQuiet_nil ?_
    intro _ hw'
    obtain ⟨⟨dq, osq⟩, hw''⟩ := hw'
    subst hw''
    go_wp2_with fail
    go_ret
    exact ⟨rfl, HB1.out.trans ((below_regrown w1 dq osq).mono HB1.out.size)⟩
  rw [hf2] at FH
  have HF2 := Lib.hid hf2
  rw [decide_eq_true (show 0 < m ∧ (⟨a2, b2, c2, d2⟩ : Ly).wf = true from ⟨hm, hf2⟩), Bool.true_and] at hr
  clear hf2
  by_cases hk1 : k = 2
  rotate_left
  · obtain rfl : r = false := by
      rw [← hr]
      unfold retB
      split
      · exact absurd HKL.out.symm hk1
      · rfl
    have hk2 : ((k : Int) != 2) = true := by simp; omega
    clear hr hk1
    refine wp_region_quiet_below (by kernel_rfl) (by kernel_rfl) ?_
    repeat (first | go_big_quiet_step ((first | (go_at_call 27; exact Calls.regrown_of (FH.out _)))) | quiet_step ((first | (go_at_call 27; exact Calls.regrown_of (FH.out _)))))
    refine wpQuiet_nil ?_
    intro _ hw'
    obtain ⟨⟨dq, osq⟩, hw''⟩ := hw'
    subst hw''
    go_wp2_with fail
    go_ret
    exact ⟨rfl, HB1.out.trans ((below_regrown w1 dq osq).mono HB1.out.size)⟩
  subst hk1
  obtain ⟨x, F, hx⟩ : ∃ x F, fs = [x, F] := by
    have := HKL.out
    match fs, this with
    | [x, F], _ => exact ⟨x, F, rfl⟩
  subst hx
  have hokF := HOK.out F (by simp)
  obtain ⟨ad, rfl, hadl, y0, y1, y2, y3, y4, y5, y6, y7⟩ := (HL.out _ HB1.out).two
  have e0 := fun d os => cell_regrown y0 d os
  have e1 := fun d os => cell_regrown y1 d os
  have e2 := fun d os => cell_regrown y2 d os
  have e3 := fun d os => cell_regrown y3 d os
  have e4 := fun d os => cell_regrown y4 d os
  have e5 := fun d os => cell_regrown y5 d os
  have e6 := fun d os => cell_regrown y6 d os
  have e7 := fun d os => cell_regrown y7 d os
  obtain ⟨xa, xb, xc, xd⟩ := x
  obtain ⟨fa, fb, fc, fd⟩ := F
  obtain ⟨v1, v2, v3, v4⟩ := hokF
  dsimp only at e0 e1 e2 e3 e4 e5 e6 e7 v1 v2 v3 v4
  have FF := Lib.hid (fun w => refForm_any fa fb fc fd v1 v2 v3 v4 w)
  clear y0 y1 y2 y3 y4 y5 y6 y7 v1 v2 v3 v4
  by_cases hxh : xa = a2 ∧ xb = b2 ∧ xc = c2 ∧ xd = d2
  rotate_left
  · obtain rfl : r = false := by
      rw [← hr]
      show (decide (_ = _) && _ && _) = false
      rw [decide_eq_false (fun h => hxh (by injection h with e0 e1 e2 e3; exact ⟨e0, e1, e2, e3⟩))]
      rfl
    clear hr
    rcases ne_first hxh with hne | ⟨rfl, hne⟩ | ⟨rfl, rfl, hne⟩ | ⟨rfl, rfl, rfl, hne⟩
    all_goals
      clear hxh
      refine wp_region_quiet_below (by kernel_rfl) (by kernel_rfl) ?_
      repeat (first | go_big_quiet_step ((first | (go_at_call 27; exact Calls.regrown_of (FH.out _)))) | quiet_step ((first | (go_at_call 27; exact Calls.regrown_of (FH.out _)))))
      refine wpQuiet_nil ?_
      intro _ hw'
      obtain ⟨⟨dq, osq⟩, hw''⟩ := hw'
      subst hw''
      go_wp2_with fail
      go_ret
      exact ⟨rfl, HB1.out.trans ((below_regrown w1 dq osq).mono HB1.out.size)⟩
  obtain ⟨rfl, rfl, rfl, rfl⟩ := hxh
  cases hff : form fa fb fc fd
  · obtain rfl : r = false := by
      rw [← hr]
      show (_ && form fa fb fc fd && _) = false
      rw [hff]
      simp
    rw [hff] at FF
    clear hr hff
    refine wp_region_quiet_below (by kernel_rfl) (by kernel_rfl) ?_
    repeat (first | go_big_quiet_step ((first | (go_at_call 27; (with_reducible exact Calls.regrown_of (FH.out _))) | (go_at_call 27; (with_reducible exact Calls.regrown_of (FF.out _))))) | quiet_step ((first | (go_at_call 27; (with_reducible exact Calls.regrown_of (FH.out _))) | (go_at_call 27; (with_reducible exact Calls.regrown_of (FF.out _))))))
    refine wpQuiet_nil ?_
    intro _ hw'
    obtain ⟨⟨dq, osq⟩, hw''⟩ := hw'
    subst hw''
    go_wp2_with fail
    go_ret
    exact ⟨rfl, HB1.out.trans ((below_regrown w1 dq osq).mono HB1.out.size)⟩
  exact absurd ⟨hm, HF2.out, ⟨fa, fb, fc, fd⟩, rfl, hff⟩ hbad

set_option maxRecDepth 100000 in
set_option maxHeartbeats 8000000 in
theorem refSValid_3good (g m t n a1 b1 c1 d1 a2 b2 c2 d2 : Int) (fa fb fc fd : Int) (A : Option Addr) (c B : Nat) (w : World) (hx : LAt w B A 2 [⟨a2, b2, c2, d2⟩, ⟨fa, fb, fc, fd⟩]) (hB : B ≤ w.heap.size) (hok : ∀ l ∈ [(⟨a2, b2, c2, d2⟩ : Ly), ⟨fa, fb, fc, fd⟩], l.ok) (i1 : I64 a1) (i2 : I64 b1) (i3 : I64 c1) (i4 : I64 d1) (o1 : I64 a2) (o2 : I64 b2) (o3 : I64 c2) (o4 : I64 d2) (hm : 0 < m) (hf2 : form a2 b2 c2 d2 = true) (hff : form fa fb fc fd = true) (r : Bool) (hr : svalid ⟨g, 3, m, t, n, ⟨a1, b1, c1, d1⟩, ⟨a2, b2, c2, d2⟩, [⟨a2, b2, c2, d2⟩, ⟨fa, fb, fc, fd⟩]⟩ = r) :
    Calls Tryd.prog 20 #[.agg #[.int .i64 g, .int .i64 3, .int .i64 m, .int .i64 t, .int .i64 n, .int .i64 a1, .int .i64 b1, .int .i64 c1, .int .i64 d1, .int .i64 a2, .int .i64 b2, .int .i64 c2, .int .i64 d2, .slice A 2 c]] w fun e w' => e = .returned (.bool r) ∧ Below w.heap.size w w' := by
  have HMM := Lib.hid (show 0 < m ∧ form a2 b2 c2 d2 = true ∧ form fa fb fc fd = true from ⟨hm, hf2, hff⟩)
  clear hm hf2 hff
  have HB0 : Hid (Below w.heap.size w (w.alloc (.cells #[.int .i64 g, .int .i64 3, .int .i64 m, .int .i64 t, .int .i64 n, .int .i64 a1, .int .i64 b1, .int .i64 c1, .int .i64 d1, .int .i64 a2, .int .i64 b2, .int .i64 c2, .int .i64 d2, .slice A 2 c] 41))) := (Below.refl _ _).alloc (Nat.le_refl _) _
  have HX0 := Lib.hid (Cells.new w 41 #[.int .i64 g, .int .i64 3, .int .i64 m, .int .i64 t, .int .i64 n, .int .i64 a1, .int .i64 b1, .int .i64 c1, .int .i64 d1, .int .i64 a2, .int .i64 b2, .int .i64 c2, .int .i64 d2, .slice A 2 c])
  have HL : Hid (∀ w', Below w.heap.size w w' → LAt w' w.heap.size A 2 [⟨a2, b2, c2, d2⟩, ⟨fa, fb, fc, fd⟩]) := fun w' hb => (hx.more hB).below hb
  have FO := Lib.hid (fun w => refForm_any a1 b1 c1 d1 i1 i2 i3 i4 w)
  have FH := Lib.hid (fun w => refForm_any a2 b2 c2 d2 o1 o2 o3 o4 w)
  have HOK := Lib.hid hok
  have NO : Hid (¬ (1 ≤ g ∧ g ≤ 1099511627775 ∧ 0 ≤ m ∧ m ≤ 4294967295 ∧ 0 ≤ t ∧ t ≤ 281474976710655 ∧ 0 ≤ n ∧ n ≤ 549755813888 ∧ form a1 b1 c1 d1 = true) → r = false) := fun h => by
    rw [← hr]
    show (decide (1 ≤ g ∧ g ≤ 1099511627775 ∧ 0 ≤ m ∧ m ≤ 4294967295 ∧ 0 ≤ t ∧ t ≤ 281474976710655 ∧ 0 ≤ n ∧ n ≤ 549755813888 ∧ form a1 b1 c1 d1 = true) && phaseB 3 m ⟨a1, b1, c1, d1⟩ ⟨a2, b2, c2, d2⟩ [⟨a2, b2, c2, d2⟩, ⟨fa, fb, fc, fd⟩]) = false
    rw [decide_eq_false h]; rfl
  have YES : Hid ((1 ≤ g ∧ g ≤ 1099511627775 ∧ 0 ≤ m ∧ m ≤ 4294967295 ∧ 0 ≤ t ∧ t ≤ 281474976710655 ∧ 0 ≤ n ∧ n ≤ 549755813888 ∧ form a1 b1 c1 d1 = true) → phaseB 3 m ⟨a1, b1, c1, d1⟩ ⟨a2, b2, c2, d2⟩ [⟨a2, b2, c2, d2⟩, ⟨fa, fb, fc, fd⟩] = r) := fun h => by
    rw [← hr]
    show _ = (decide (1 ≤ g ∧ g ≤ 1099511627775 ∧ 0 ≤ m ∧ m ≤ 4294967295 ∧ 0 ≤ t ∧ t ≤ 281474976710655 ∧ 0 ≤ n ∧ n ≤ 549755813888 ∧ form a1 b1 c1 d1 = true) && phaseB 3 m ⟨a1, b1, c1, d1⟩ ⟨a2, b2, c2, d2⟩ [⟨a2, b2, c2, d2⟩, ⟨fa, fb, fc, fd⟩])
    rw [decide_eq_true h]; rfl
  clear hr hx hok hB i1 i2 i3 i4 o1 o2 o3 o4
  by_cases q0 : g < 1
  · obtain rfl := NO.out (by omega)
    go_enter Tryd.func20, Tryd.ntmps20
    go_wp2
    go_ret
    exact ⟨rfl, HB0.out⟩
  by_cases q1 : 1099511627775 < g
  · obtain rfl := NO.out (by omega)
    go_enter Tryd.func20, Tryd.ntmps20
    go_wp2
    go_ret
    exact ⟨rfl, HB0.out⟩
  by_cases q2 : m < 0
  · obtain rfl := NO.out (by omega)
    go_enter Tryd.func20, Tryd.ntmps20
    go_wp2
    go_ret
    exact ⟨rfl, HB0.out⟩
  by_cases q3 : 4294967295 < m
  · obtain rfl := NO.out (by omega)
    go_enter Tryd.func20, Tryd.ntmps20
    go_wp2
    go_ret
    exact ⟨rfl, HB0.out⟩
  by_cases q4 : t < 0
  · obtain rfl := NO.out (by omega)
    go_enter Tryd.func20, Tryd.ntmps20
    go_wp2
    go_ret
    exact ⟨rfl, HB0.out⟩
  by_cases q5 : 281474976710655 < t
  · obtain rfl := NO.out (by omega)
    go_enter Tryd.func20, Tryd.ntmps20
    go_wp2
    go_ret
    exact ⟨rfl, HB0.out⟩
  by_cases q6 : n < 0
  · obtain rfl := NO.out (by omega)
    go_enter Tryd.func20, Tryd.ntmps20
    go_wp2
    go_ret
    exact ⟨rfl, HB0.out⟩
  by_cases q7 : 549755813888 < n
  · obtain rfl := NO.out (by omega)
    go_enter Tryd.func20, Tryd.ntmps20
    go_wp2
    go_ret
    exact ⟨rfl, HB0.out⟩
  cases hf : form a1 b1 c1 d1
  · obtain rfl := NO.out (by rw [hf]; simp)
    rw [hf] at FO
    clear hf
    go_enter Tryd.func20, Tryd.ntmps20
    go_wp2_with (go_at_call 27; refine (FO.out _).mono ?_; rintro e w1 ⟨rfl, hbel⟩; have HB1 : Hid (Below w.heap.size w w1) := HB0.out.trans (hbel.mono HB0.out.size); have HX1 := Lib.hid (HX0.out.below hbel (by simp)); have l0 := HX1.out 0 _ rfl; have l1 := HX1.out 1 _ rfl; have l2 := HX1.out 2 _ rfl; have l3 := HX1.out 3 _ rfl; have l4 := HX1.out 4 _ rfl; have l5 := HX1.out 5 _ rfl; have l6 := HX1.out 6 _ rfl; have l7 := HX1.out 7 _ rfl; have l8 := HX1.out 8 _ rfl; have l9 := HX1.out 9 _ rfl; have l10 := HX1.out 10 _ rfl; have l11 := HX1.out 11 _ rfl; have l12 := HX1.out 12 _ rfl; have l13 := HX1.out 13 _ rfl; have hwlt := HX1.out.lt; clear hbel)
    go_ret
    exact ⟨rfl, HB1.out⟩
  have hr := YES.out ⟨by omega, by omega, by omega, by omega, by omega, by omega, by omega, by omega, hf⟩
  rw [hf] at FO
  clear NO YES hf
  unfold phaseB at hr
  have HR := Lib.hid hr
  clear hr
  go_enter Tryd.func20, Tryd.ntmps20
  go_upto_region 3 with (go_at_call 27; refine (FO.out _).mono ?_; rintro e w1 ⟨rfl, hbel⟩; have HB1 : Hid (Below w.heap.size w w1) := HB0.out.trans (hbel.mono HB0.out.size); have HX1 := Lib.hid (HX0.out.below hbel (by simp)); have l0 := HX1.out 0 _ rfl; have l1 := HX1.out 1 _ rfl; have l2 := HX1.out 2 _ rfl; have l3 := HX1.out 3 _ rfl; have l4 := HX1.out 4 _ rfl; have l5 := HX1.out 5 _ rfl; have l6 := HX1.out 6 _ rfl; have l7 := HX1.out 7 _ rfl; have l8 := HX1.out 8 _ rfl; have l9 := HX1.out 9 _ rfl; have l10 := HX1.out 10 _ rfl; have l11 := HX1.out 11 _ rfl; have l12 := HX1.out 12 _ rfl; have l13 := HX1.out 13 _ rfl; have hwlt := HX1.out.lt; clear hbel)
  have hr := HR.out
  rw [if_neg (by decide), if_neg (by decide), if_pos trivial] at hr
  clear HR
  go_upto_region 9 with fail
  obtain ⟨hm, hf2, hff⟩ := HMM.out
  have g0 := fun d os => cell_regrown (HX1.out 0 _ rfl) d os
  have g1 := fun d os => cell_regrown (HX1.out 1 _ rfl) d os
  have g2 := fun d os => cell_regrown (HX1.out 2 _ rfl) d os
  have g3 := fun d os => cell_regrown (HX1.out 3 _ rfl) d os
  have g4 := fun d os => cell_regrown (HX1.out 4 _ rfl) d os
  have g5 := fun d os => cell_regrown (HX1.out 5 _ rfl) d os
  have g6 := fun d os => cell_regrown (HX1.out 6 _ rfl) d os
  have g7 := fun d os => cell_regrown (HX1.out 7 _ rfl) d os
  have g8 := fun d os => cell_regrown (HX1.out 8 _ rfl) d os
  have g9 := fun d os => cell_regrown (HX1.out 9 _ rfl) d os
  have g10 := fun d os => cell_regrown (HX1.out 10 _ rfl) d os
  have g11 := fun d os => cell_regrown (HX1.out 11 _ rfl) d os
  have g12 := fun d os => cell_regrown (HX1.out 12 _ rfl) d os
  have g13 := fun d os => cell_regrown (HX1.out 13 _ rfl) d os
  clear l0 l1 l2 l3 l4 l5 l6 l7 l8 l9 l10 l11 l12 l13
  have hm2 : (m == 0) = false := by simp; omega
  rw [hf2] at FH
  rw [decide_eq_true (show 0 < m ∧ (⟨a2, b2, c2, d2⟩ : Ly).wf = true from ⟨hm, hf2⟩), Bool.true_and] at hr
  have hokF := HOK.out ⟨fa, fb, fc, fd⟩ (by simp)
  obtain ⟨ad, rfl, hadl, y0, y1, y2, y3, y4, y5, y6, y7⟩ := (HL.out _ HB1.out).two
  have e0 := fun d os => cell_regrown y0 d os
  have e1 := fun d os => cell_regrown y1 d os
  have e2 := fun d os => cell_regrown y2 d os
  have e3 := fun d os => cell_regrown y3 d os
  have e4 := fun d os => cell_regrown y4 d os
  have e5 := fun d os => cell_regrown y5 d os
  have e6 := fun d os => cell_regrown y6 d os
  have e7 := fun d os => cell_regrown y7 d os
  obtain ⟨v1, v2, v3, v4⟩ := hokF
  dsimp only at e0 e1 e2 e3 e4 e5 e6 e7 v1 v2 v3 v4
  have FF := Lib.hid (fun w => refForm_any fa fb fc fd v1 v2 v3 v4 w)
  clear y0 y1 y2 y3 y4 y5 y6 y7 v1 v2 v3 v4
  have HRR : Hid (r = decide (¬ a2 = fa ∧ ¬ a2 = a1 ∧ ¬ fa = a1 ∧ b1 = b2 ∧ c1 = c2 ∧ d1 = d2)) := by
    show _ = _
    rw [← hr]
    show (decide (_ = _) && form fa fb fc fd && _) = _
    rw [decide_eq_true rfl, hff]
    rfl
  rw [hff] at FF
  clear hr hff hf2
  refine wp_region_quiet_below (by kernel_rfl) (by kernel_rfl) ?_
  repeat (first | go_big_quiet_step ((first | (go_at_call 27; (with_reducible exact Calls.regrown_of (FH.out _))) | (go_at_call 27; (with_reducible exact Calls.regrown_of (FF.out _))))) | quiet_step ((first | (go_at_call 27; (with_reducible exact Calls.regrown_of (FH.out _))) | (go_at_call 27; (with_reducible exact Calls.regrown_of (FF.out _))))))
  refine wpQuiet_nil ?_
  intro wz hw'
  have hbz := below_of_regrown hw'
  have HZ := Lib.hid (HB1.out.trans (hbz.mono HB1.out.size))
  have HC := Lib.hid (HX1.out.below hbz hwlt)
  clear hw' hbz g0 g1 g2 g3 g4 g5 g6 g7 g8 g9 g10 g11 g12 g13 e0 e1 e2 e3 e4 e5 e6 e7
  obtain ⟨ad2, had2, hadl2, y0, y1, y2, y3, y4, y5, y6, y7⟩ := (HL.out _ HZ.out).two
  injection had2 with had2
  subst had2
  dsimp only at y0 y1 y2 y3 y4 y5 y6 y7
  have q5 := HC.out 5 _ rfl
  have q6 := HC.out 6 _ rfl
  have q7 := HC.out 7 _ rfl
  have q8 := HC.out 8 _ rfl
  have q9 := HC.out 9 _ rfl
  have q10 := HC.out 10 _ rfl
  have q11 := HC.out 11 _ rfl
  have q12 := HC.out 12 _ rfl
  have q13 := HC.out 13 _ rfl
  go_upto_region 11 with fail
  have hn0 := HC.out.lt
  have hne1 : ¬ wz.heap.size = w.heap.size := by omega
  have hne2 : ¬ wz.heap.size + 1 = w.heap.size := by omega
  have hne3 : ¬ wz.heap.size + 1 + 1 = w.heap.size := by omega
  go_cut [3, 4, 5] (fun x y z wx => ∃ g1 g2 g3 : Nat, x = .pointer (some ⟨g1, 0, none⟩) ∧ y = .pointer (some ⟨g2, 0, none⟩) ∧ z = .pointer (some ⟨g3, 0, none⟩) ∧ Cells wx g1 [.int .i64 a1, .int .i64 b1, .int .i64 c1, .int .i64 d1] ∧ Cells wx g2 [.int .i64 a2, .int .i64 b2, .int .i64 c2, .int .i64 d2] ∧ Cells wx g3 [.int .i64 fa, .int .i64 fb, .int .i64 fc, .int .i64 fd] ∧ Below w.heap.size w wx)
  case first =>
    have hadz : ad.block < wz.heap.size := Nat.lt_of_lt_of_le hadl HZ.out.size
    have HSB : Hid (∀ w' : World, Below wz.heap.size wz w' → (w'.cell? ⟨w.heap.size, 5, none⟩ = some (.int .i64 a1) ∧ w'.cell? ⟨w.heap.size, 6, none⟩ = some (.int .i64 b1) ∧ w'.cell? ⟨w.heap.size, 7, none⟩ = some (.int .i64 c1) ∧ w'.cell? ⟨w.heap.size, 8, none⟩ = some (.int .i64 d1) ∧ w'.cell? ⟨w.heap.size, 9, none⟩ = some (.int .i64 a2) ∧ w'.cell? ⟨w.heap.size, 10, none⟩ = some (.int .i64 b2) ∧ w'.cell? ⟨w.heap.size, 11, none⟩ = some (.int .i64 c2) ∧ w'.cell? ⟨w.heap.size, 12, none⟩ = some (.int .i64 d2) ∧ w'.cell? ⟨w.heap.size, 13, none⟩ = some (.slice (some ad) 2 c) ∧ w'.cell? ⟨ad.block, ad.off + 4, none⟩ = some (.int .i64 fa) ∧ w'.cell? ⟨ad.block, ad.off + 5, none⟩ = some (.int .i64 fb) ∧ w'.cell? ⟨ad.block, ad.off + 6, none⟩ = some (.int .i64 fc) ∧ w'.cell? ⟨ad.block, ad.off + 7, none⟩ = some (.int .i64 fd))) := fun w' hb => ⟨(hb.cell (p := ⟨w.heap.size, 5, none⟩) hn0).trans q5, (hb.cell (p := ⟨w.heap.size, 6, none⟩) hn0).trans q6, (hb.cell (p := ⟨w.heap.size, 7, none⟩) hn0).trans q7, (hb.cell (p := ⟨w.heap.size, 8, none⟩) hn0).trans q8, (hb.cell (p := ⟨w.heap.size, 9, none⟩) hn0).trans q9, (hb.cell (p := ⟨w.heap.size, 10, none⟩) hn0).trans q10, (hb.cell (p := ⟨w.heap.size, 11, none⟩) hn0).trans q11, (hb.cell (p := ⟨w.heap.size, 12, none⟩) hn0).trans q12, (hb.cell (p := ⟨w.heap.size, 13, none⟩) hn0).trans q13, (hb.cell (p := ⟨ad.block, ad.off + 4, none⟩) hadz).trans y4, (hb.cell (p := ⟨ad.block, ad.off + 5, none⟩) hadz).trans y5, (hb.cell (p := ⟨ad.block, ad.off + 6, none⟩) hadz).trans y6, (hb.cell (p := ⟨ad.block, ad.off + 7, none⟩) hadz).trans y7⟩
    go_region_held3 (fun w' => w'.cell? ⟨w.heap.size, 5, none⟩ = some (.int .i64 a1) ∧ w'.cell? ⟨w.heap.size, 6, none⟩ = some (.int .i64 b1) ∧ w'.cell? ⟨w.heap.size, 7, none⟩ = some (.int .i64 c1) ∧ w'.cell? ⟨w.heap.size, 8, none⟩ = some (.int .i64 d1) ∧ w'.cell? ⟨w.heap.size, 9, none⟩ = some (.int .i64 a2) ∧ w'.cell? ⟨w.heap.size, 10, none⟩ = some (.int .i64 b2) ∧ w'.cell? ⟨w.heap.size, 11, none⟩ = some (.int .i64 c2) ∧ w'.cell? ⟨w.heap.size, 12, none⟩ = some (.int .i64 d2) ∧ w'.cell? ⟨w.heap.size, 13, none⟩ = some (.slice (some ad) 2 c) ∧ w'.cell? ⟨ad.block, ad.off + 4, none⟩ = some (.int .i64 fa) ∧ w'.cell? ⟨ad.block, ad.off + 5, none⟩ = some (.int .i64 fb) ∧ w'.cell? ⟨ad.block, ad.off + 6, none⟩ = some (.int .i64 fc) ∧ w'.cell? ⟨ad.block, ad.off + 7, none⟩ = some (.int .i64 fd)) (first | exact HSB.out _ (by repeat (first | with_reducible exact Below.refl _ _ | with_reducible refine Below.drew ?_ | with_reducible refine Below.alloc ?_ (by first | exact Nat.le_refl _ | (simp; done) | (simp; omega)) _ | with_reducible refine Below.setCell ?_ (by first | exact Nat.le_refl _ | (simp; done) | (simp; omega)) _))) (first | fail)
    all_goals
      go_wp2_with fail
      (try go_simp)
      go_meet
      refine ⟨_, _, _, rfl, rfl, rfl, ?_, ?_, ?_, ?_⟩
      · first | exact (cells3 _ _ _ _ _).1 | exact (cells3 _ _ _ _ _).2.1 | exact (cells3 _ _ _ _ _).2.2.1
      · first | exact (cells3 _ _ _ _ _).1 | exact (cells3 _ _ _ _ _).2.1 | exact (cells3 _ _ _ _ _).2.2.1
      · first | exact (cells3 _ _ _ _ _).1 | exact (cells3 _ _ _ _ _).2.1 | exact (cells3 _ _ _ _ _).2.2.1
      · exact HZ.out.trans ((cells3 _ _ _ _ _).2.2.2.mono HZ.out.size)
  case rest =>
    obtain ⟨g1, g2, g3, rfl, rfl, rfl, h1, h2, h3, hbel⟩ := hcut
    have HZ2 := Lib.hid hbel
    have ta := h1 0 _ rfl
    have tb := h1 1 _ rfl
    have tc := h1 2 _ rfl
    have td := h1 3 _ rfl
    have ha := h2 0 _ rfl
    have hb := h2 1 _ rfl
    have hc := h2 2 _ rfl
    have hd := h2 3 _ rfl
    have fa' := h3 0 _ rfl
    clear h1 h2 h3 hbel q5 q6 q7 q8 q9 q10 q11 q12 q13 y0 y1 y2 y3 y4 y5 y6 y7
    obtain ⟨wy, hwy⟩ : ∃ x, x = wc := ⟨_, rfl⟩
    subst hwy
    have NOT : ∀ (q : Prop), ((¬ a2 = fa ∧ ¬ a2 = a1 ∧ ¬ fa = a1 ∧ b1 = b2 ∧ c1 = c2 ∧ d1 = d2) → q) → ¬ q → r = false := fun q h hn => by rw [HRR.out]; exact decide_eq_false (fun hh => hn (h hh))
    by_cases n1 : a1 = a2
    · obtain rfl : r = false := NOT (¬ a2 = a1) (fun h => h.2.1) (fun h => h n1.symm)
      subst n1
      clear NOT
      go_wp2_with fail
      go_ret
      exact ⟨rfl, HZ2.out⟩
    have m1 : (a1 != a2) = true := by simpa using n1
    by_cases n2 : a1 = fa
    · obtain rfl : r = false := NOT (¬ fa = a1) (fun h => h.2.2.1) (fun h => h n2.symm)
      subst n2
      clear NOT
      go_wp2_with fail
      go_ret
      exact ⟨rfl, HZ2.out⟩
    have m2 : (a1 != fa) = true := by simpa using n2
    by_cases n3 : a2 = fa
    · obtain rfl : r = false := NOT (¬ a2 = fa) (fun h => h.1) (fun h => h n3)
      subst n3
      clear NOT
      go_wp2_with fail
      go_ret
      exact ⟨rfl, HZ2.out⟩
    have m3 : (a2 != fa) = true := by simpa using n3
    by_cases n4 : b1 = b2
    rotate_left
    · obtain rfl : r = false := NOT (b1 = b2) (fun h => h.2.2.2.1) n4
      have m4 : (b1 == b2) = false := by simpa using n4
      clear NOT
      go_wp2_with fail
      go_ret
      exact ⟨rfl, HZ2.out⟩
    by_cases n5 : c1 = c2
    rotate_left
    · obtain rfl : r = false := NOT (c1 = c2) (fun h => h.2.2.2.2.1) n5
      have m4 : (c1 == c2) = false := by simpa using n5
      subst n4
      clear NOT
      go_wp2_with fail
      go_ret
      exact ⟨rfl, HZ2.out⟩
    by_cases n6 : d1 = d2
    rotate_left
    · obtain rfl : r = false := NOT (d1 = d2) (fun h => h.2.2.2.2.2) n6
      have m4 : (d1 == d2) = false := by simpa using n6
      subst n4; subst n5
      clear NOT
      go_wp2_with fail
      go_ret
      exact ⟨rfl, HZ2.out⟩
    obtain rfl : r = true := by rw [HRR.out]; exact decide_eq_true ⟨n3, fun h => n1 h.symm, fun h => n2 h.symm, n4, n5, n6⟩
    subst n4; subst n5; subst n6
    clear NOT
    go_wp2_with fail
    go_ret
    exact ⟨rfl, HZ2.out⟩

set_option maxRecDepth 100000 in
theorem refSValid_any (g p m t n a1 b1 c1 d1 a2 b2 c2 d2 : Int) (fs : List Ly) (A : Option Addr) (k c B : Nat) (w : World) (hx : LAt w B A k fs) (hk : k ≤ 9223372036854775807) (hB : B ≤ w.heap.size) (hok : ∀ l ∈ fs, l.ok) (i1 : I64 a1) (i2 : I64 b1) (i3 : I64 c1) (i4 : I64 d1) (o1 : I64 a2) (o2 : I64 b2) (o3 : I64 c2) (o4 : I64 d2) (r : Bool) (hr : svalid ⟨g, p, m, t, n, ⟨a1, b1, c1, d1⟩, ⟨a2, b2, c2, d2⟩, fs⟩ = r) :
    Calls Tryd.prog 20 #[.agg #[.int .i64 g, .int .i64 p, .int .i64 m, .int .i64 t, .int .i64 n, .int .i64 a1, .int .i64 b1, .int .i64 c1, .int .i64 d1, .int .i64 a2, .int .i64 b2, .int .i64 c2, .int .i64 d2, .slice A k c]] w fun e w' => e = .returned (.bool r) ∧ Below w.heap.size w w' := by
  by_cases hp : p = 3
  · subst hp
    by_cases hgd : 0 < m ∧ form a2 b2 c2 d2 = true ∧ ∃ F : Ly, fs = [⟨a2, b2, c2, d2⟩, F] ∧ F.wf = true
    · obtain ⟨g1, g2, ⟨fa, fb, fc, fd⟩, rfl, g3⟩ := hgd
      have hk2 : k = 2 := hx.1.symm
      subst hk2
      exact refSValid_3good g m t n a1 b1 c1 d1 a2 b2 c2 d2 fa fb fc fd A c B w hx hB hok i1 i2 i3 i4 o1 o2 o3 o4 g1 g2 g3 r hr
    · exact refSValid_3bad g m t n a1 b1 c1 d1 a2 b2 c2 d2 fs A k c B w hx hk hB hok i1 i2 i3 i4 o1 o2 o3 o4 hgd r hr
  · exact refSValid_12 g p m t n a1 b1 c1 d1 a2 b2 c2 d2 fs A k c B w hx hk hB hok i1 i2 i3 i4 o1 o2 o3 o4 hp r hr
end Go.Proofs.YthjnbdbbeidhgaaDoor
