/- The walks of record.Length, record.Check and of their references. -/
import Derived.Test.YthgpmnblkhehkaaDoorRecord
import Derived.Test.YthgpmnblkhehkaaDoorWireWalks
import Derived.Deep.RegionWith
import Derived.BigQuiet
namespace Go.Proofs.YthgpmnblkhehkaaDoor
open Go.RowKit

theorem belowDrewN {B : Nat} {a w : World} (h : Below B a w) (n : Nat) : Below B a (w.drewN n) := ⟨h.os, h.tape, h.output, h.size, h.block⟩


set_option maxHeartbeats 400000 in
theorem refLength_any (ki ex : Int) (Ak Av : Option Addr) (nk ck nv cv : Nat) (hk : nk ≤ 1000000) (hv : nv ≤ 1000000) (w : World) :
    Calls Tryd.prog 68 #[.agg #[.int .i64 ki, .slice Ak nk ck, .slice Av nv cv, .int .i64 ex]] w fun e w' => e = .returned (.int .i64 (16 + nk + nv : Int)) ∧ Below w.heap.size w w' := by
  go_enter Tryd.func68, Tryd.ntmps68
  go_wp2
  go_ret
  exact ⟨rfl, (Below.refl _ _).alloc (Nat.le_refl _) _⟩

def mostR (b : Int) : Int := if b = 1 then 4294967295 else 1099511627775
set_option maxHeartbeats 400000 in
theorem latestR_any (b m : Int) (hm : mostR b = m) (w : World) :
    Calls Tryd.prog 81 #[.int .i64 b] w fun e w' => e = .returned (.int .i64 m) ∧ w = w' := by
  by_cases h : b = 1
  · obtain rfl : m = 4294967295 := by rw [← hm, mostR, if_pos h]
    subst h
    clear hm
    go_enter Tryd.func81, Tryd.ntmps81
    go_wp2
    go_ret
    exact ⟨rfl, rfl⟩
  · obtain rfl : m = 1099511627775 := by rw [← hm, mostR, if_neg h]
    clear hm
    go_enter Tryd.func81, Tryd.ntmps81
    go_wp2
    go_ret
    exact ⟨rfl, rfl⟩

set_option maxHeartbeats 8000000 in
theorem rcheck_any (v ki ex : Int) (Ak Av : Option Addr) (nk ck nv cv : Nat) (hk : nk ≤ 1000000) (hv : nv ≤ 1000000) (r : Int) (hr : rcheck v ki ex nk nv = r) (w : World) :
    Calls Tryd.prog 75 #[.int .i64 v, .agg #[.int .i64 ki, .slice Ak nk ck, .slice Av nv cv, .int .i64 ex]] w fun e w' => e = .returned (.int .i64 r) ∧ Below w.heap.size w w' := by
  by_cases h0 : ¬ v = 1 ∧ ¬ v = 2
  · have LA := Lib.hid (latestR_any v _ rfl)
    obtain ⟨h01, h02⟩ := h0
    have h01' : (v != 1) = true := by simp only [bne_iff_ne, ne_eq]; exact h01
    have h02' : (v != 2) = true := by simp only [bne_iff_ne, ne_eq]; exact h02
    obtain rfl : r = 2 := by rw [← hr]; unfold rcheck; (repeat (first | rw [if_pos (by omega)] | rw [if_neg (by omega)]))
    clear hr
    go_enter Tryd.func75, Tryd.ntmps75
    go_wp2_with (go_at_call 81; with_reducible refine (LA.out _).mono ?_; rintro e w' ⟨rfl, rfl⟩)
    all_goals (go_ret; exact ⟨rfl, by first | exact (Below.refl _ _).alloc (Nat.le_refl _) _ | exact Below.drew ((Below.refl _ _).alloc (Nat.le_refl _) _) | exact belowDrewN ((Below.refl _ _).alloc (Nat.le_refl _) _) _⟩)
  obtain rfl | rfl : v = 1 ∨ v = 2 := by omega
  · clear h0
    have LA : Hid (∀ w, Calls Tryd.prog 81 #[.int .i64 1] w fun e w' => e = .returned (.int .i64 4294967295) ∧ w = w') := fun w => latestR_any 1 4294967295 (by decide) w
    rcases Int.lt_or_le ki 1 with k1 | k1
    · obtain rfl : r = 4 := by rw [← hr]; unfold rcheck; (repeat (first | rw [if_pos (by omega)] | rw [if_neg (by omega)]))
      clear hr
      go_enter Tryd.func75, Tryd.ntmps75
      go_wp2_with (go_at_call 81; with_reducible refine (LA.out _).mono ?_; rintro e w' ⟨rfl, rfl⟩)
      all_goals (go_ret; exact ⟨rfl, by first | exact (Below.refl _ _).alloc (Nat.le_refl _) _ | exact Below.drew ((Below.refl _ _).alloc (Nat.le_refl _) _) | exact belowDrewN ((Below.refl _ _).alloc (Nat.le_refl _) _) _⟩)
    rcases Int.lt_or_le 3 ki with k2 | k2
    · obtain rfl : r = 4 := by rw [← hr]; unfold rcheck; (repeat (first | rw [if_pos (by omega)] | rw [if_neg (by omega)]))
      clear hr
      go_enter Tryd.func75, Tryd.ntmps75
      go_wp2_with (go_at_call 81; with_reducible refine (LA.out _).mono ?_; rintro e w' ⟨rfl, rfl⟩)
      all_goals (go_ret; exact ⟨rfl, by first | exact (Below.refl _ _).alloc (Nat.le_refl _) _ | exact Below.drew ((Below.refl _ _).alloc (Nat.le_refl _) _) | exact belowDrewN ((Below.refl _ _).alloc (Nat.le_refl _) _) _⟩)
    obtain rfl | rfl | rfl : ki = 1 ∨ ki = 2 ∨ ki = 3 := by omega
    · by_cases h1 : nk = 0
      · subst h1
        obtain rfl : r = 5 := by rw [← hr]; unfold rcheck; (repeat (first | rw [if_pos (by omega)] | rw [if_neg (by omega)]))
        clear hr
        go_enter Tryd.func75, Tryd.ntmps75
        go_wp2_with (go_at_call 81; with_reducible refine (LA.out _).mono ?_; rintro e w' ⟨rfl, rfl⟩)
        all_goals (go_ret; exact ⟨rfl, by first | exact (Below.refl _ _).alloc (Nat.le_refl _) _ | exact Below.drew ((Below.refl _ _).alloc (Nat.le_refl _) _) | exact belowDrewN ((Below.refl _ _).alloc (Nat.le_refl _) _) _⟩)
      have h1' : ((nk : Int) == 0) = false := by simp only [beq_eq_false_iff_ne]; omega
      by_cases h2 : 255 < nk
      · have h2' : (255 : Int) < (nk : Int) := by omega
        obtain rfl : r = 5 := by rw [← hr]; unfold rcheck; (repeat (first | rw [if_pos (by omega)] | rw [if_neg (by omega)]))
        clear hr
        go_enter Tryd.func75, Tryd.ntmps75
        go_wp2_with (go_at_call 81; with_reducible refine (LA.out _).mono ?_; rintro e w' ⟨rfl, rfl⟩)
        all_goals (go_ret; exact ⟨rfl, by first | exact (Below.refl _ _).alloc (Nat.le_refl _) _ | exact Below.drew ((Below.refl _ _).alloc (Nat.le_refl _) _) | exact belowDrewN ((Below.refl _ _).alloc (Nat.le_refl _) _) _⟩)
      have h2' : ¬ (255 : Int) < (nk : Int) := by omega
      by_cases h3 : 65536 < nv
      · have h3' : (65536 : Int) < (nv : Int) := by omega
        obtain rfl : r = 6 := by rw [← hr]; unfold rcheck; (repeat (first | rw [if_pos (by omega)] | rw [if_neg (by omega)]))
        clear hr
        go_enter Tryd.func75, Tryd.ntmps75
        go_wp2_with (go_at_call 81; with_reducible refine (LA.out _).mono ?_; rintro e w' ⟨rfl, rfl⟩)
        all_goals (go_ret; exact ⟨rfl, by first | exact (Below.refl _ _).alloc (Nat.le_refl _) _ | exact Below.drew ((Below.refl _ _).alloc (Nat.le_refl _) _) | exact belowDrewN ((Below.refl _ _).alloc (Nat.le_refl _) _) _⟩)
      have h3' : ¬ (65536 : Int) < (nv : Int) := by omega
      rcases Int.lt_or_le ex 0 with h4 | h4
      · obtain rfl : r = 7 := by rw [← hr]; unfold rcheck; (repeat (first | rw [if_pos (by omega)] | rw [if_neg (by omega)]))
        clear hr
        go_enter Tryd.func75, Tryd.ntmps75
        go_wp2_with fail
        go_quiet (fail)
        go_wp2
        all_goals (go_ret; exact ⟨rfl, by first | exact (Below.refl _ _).alloc (Nat.le_refl _) _ | exact Below.drew ((Below.refl _ _).alloc (Nat.le_refl _) _) | exact belowDrewN ((Below.refl _ _).alloc (Nat.le_refl _) _) _⟩)
      have h4' : decide (ex < 0) = false := decide_eq_false (by omega)
      rcases Int.lt_or_le 4294967295 ex with h5 | h5
      · have h5' : decide (4294967295 < ex) = true := decide_eq_true h5
        obtain rfl : r = 7 := by rw [← hr]; unfold rcheck; (repeat (first | rw [if_pos (by omega)] | rw [if_neg (by omega)]))
        clear hr
        go_enter Tryd.func75, Tryd.ntmps75
        go_wp2_with fail
        go_region_with (first | (go_at_call 81; with_reducible refine (LA.out _).mono ?_; rintro e w' ⟨rfl, rfl⟩))
        all_goals (try go_wp2)
        all_goals (go_ret; exact ⟨rfl, by first | exact (Below.refl _ _).alloc (Nat.le_refl _) _ | exact Below.drew ((Below.refl _ _).alloc (Nat.le_refl _) _) | exact belowDrewN ((Below.refl _ _).alloc (Nat.le_refl _) _) _⟩)
      have h5' : decide (4294967295 < ex) = false := decide_eq_false (by omega)
      obtain rfl : r = 0 := by rw [← hr]; unfold rcheck; (repeat (first | rw [if_pos (by omega)] | rw [if_neg (by omega)]))
      clear hr
      go_enter Tryd.func75, Tryd.ntmps75
      go_wp2_with fail
      go_region_with (first | (go_at_call 81; with_reducible refine (LA.out _).mono ?_; rintro e w' ⟨rfl, rfl⟩))
      all_goals (try go_wp2)
      all_goals (go_ret; exact ⟨rfl, by first | exact (Below.refl _ _).alloc (Nat.le_refl _) _ | exact Below.drew ((Below.refl _ _).alloc (Nat.le_refl _) _) | exact belowDrewN ((Below.refl _ _).alloc (Nat.le_refl _) _) _⟩)
    · by_cases h1 : 0 < nv
      · have h1' : (0 : Int) < (nv : Int) := by omega
        obtain rfl : r = 4 := by rw [← hr]; unfold rcheck; (repeat (first | rw [if_pos (by omega)] | rw [if_neg (by omega)]))
        clear hr
        go_enter Tryd.func75, Tryd.ntmps75
        go_wp2_with (go_at_call 81; with_reducible refine (LA.out _).mono ?_; rintro e w' ⟨rfl, rfl⟩)
        all_goals (go_ret; exact ⟨rfl, by first | exact (Below.refl _ _).alloc (Nat.le_refl _) _ | exact Below.drew ((Below.refl _ _).alloc (Nat.le_refl _) _) | exact belowDrewN ((Below.refl _ _).alloc (Nat.le_refl _) _) _⟩)
      obtain rfl : nv = 0 := by omega
      by_cases h2 : ex = 0
      rotate_left
      · obtain rfl : r = 4 := by rw [← hr]; unfold rcheck; (repeat (first | rw [if_pos (by omega)] | rw [if_neg (by omega)]))
        clear hr
        go_enter Tryd.func75, Tryd.ntmps75
        go_wp2_with (go_at_call 81; with_reducible refine (LA.out _).mono ?_; rintro e w' ⟨rfl, rfl⟩)
        all_goals (go_ret; exact ⟨rfl, by first | exact (Below.refl _ _).alloc (Nat.le_refl _) _ | exact Below.drew ((Below.refl _ _).alloc (Nat.le_refl _) _) | exact belowDrewN ((Below.refl _ _).alloc (Nat.le_refl _) _) _⟩)
      subst h2
      by_cases h3 : nk = 0
      · subst h3
        obtain rfl : r = 5 := by rw [← hr]; unfold rcheck; (repeat (first | rw [if_pos (by omega)] | rw [if_neg (by omega)]))
        clear hr
        go_enter Tryd.func75, Tryd.ntmps75
        go_wp2_with (go_at_call 81; with_reducible refine (LA.out _).mono ?_; rintro e w' ⟨rfl, rfl⟩)
        all_goals (go_ret; exact ⟨rfl, by first | exact (Below.refl _ _).alloc (Nat.le_refl _) _ | exact Below.drew ((Below.refl _ _).alloc (Nat.le_refl _) _) | exact belowDrewN ((Below.refl _ _).alloc (Nat.le_refl _) _) _⟩)
      have h3' : ((nk : Int) == 0) = false := by simp only [beq_eq_false_iff_ne]; omega
      by_cases h4 : 255 < nk
      · have h4' : (255 : Int) < (nk : Int) := by omega
        obtain rfl : r = 5 := by rw [← hr]; unfold rcheck; (repeat (first | rw [if_pos (by omega)] | rw [if_neg (by omega)]))
        clear hr
        go_enter Tryd.func75, Tryd.ntmps75
        go_wp2_with (go_at_call 81; with_reducible refine (LA.out _).mono ?_; rintro e w' ⟨rfl, rfl⟩)
        all_goals (go_ret; exact ⟨rfl, by first | exact (Below.refl _ _).alloc (Nat.le_refl _) _ | exact Below.drew ((Below.refl _ _).alloc (Nat.le_refl _) _) | exact belowDrewN ((Below.refl _ _).alloc (Nat.le_refl _) _) _⟩)
      have h4' : ¬ (255 : Int) < (nk : Int) := by omega
      obtain rfl : r = 0 := by rw [← hr]; unfold rcheck; (repeat (first | rw [if_pos (by omega)] | rw [if_neg (by omega)]))
      clear hr
      go_enter Tryd.func75, Tryd.ntmps75
      go_wp2_with fail
      go_region_with (first | (go_at_call 81; with_reducible refine (LA.out _).mono ?_; rintro e w' ⟨rfl, rfl⟩))
      all_goals (try go_wp2)
      all_goals (go_ret; exact ⟨rfl, by first | exact (Below.refl _ _).alloc (Nat.le_refl _) _ | exact Below.drew ((Below.refl _ _).alloc (Nat.le_refl _) _) | exact belowDrewN ((Below.refl _ _).alloc (Nat.le_refl _) _) _⟩)
    · by_cases h1 : 0 < nv
      · have h1' : (0 : Int) < (nv : Int) := by omega
        obtain rfl : r = 4 := by rw [← hr]; unfold rcheck; (repeat (first | rw [if_pos (by omega)] | rw [if_neg (by omega)]))
        clear hr
        go_enter Tryd.func75, Tryd.ntmps75
        go_wp2_with (go_at_call 81; with_reducible refine (LA.out _).mono ?_; rintro e w' ⟨rfl, rfl⟩)
        all_goals (go_ret; exact ⟨rfl, by first | exact (Below.refl _ _).alloc (Nat.le_refl _) _ | exact Below.drew ((Below.refl _ _).alloc (Nat.le_refl _) _) | exact belowDrewN ((Below.refl _ _).alloc (Nat.le_refl _) _) _⟩)
      obtain rfl : nv = 0 := by omega
      by_cases h2 : ex = 0
      rotate_left
      · obtain rfl : r = 4 := by rw [← hr]; unfold rcheck; (repeat (first | rw [if_pos (by omega)] | rw [if_neg (by omega)]))
        clear hr
        go_enter Tryd.func75, Tryd.ntmps75
        go_wp2_with (go_at_call 81; with_reducible refine (LA.out _).mono ?_; rintro e w' ⟨rfl, rfl⟩)
        all_goals (go_ret; exact ⟨rfl, by first | exact (Below.refl _ _).alloc (Nat.le_refl _) _ | exact Below.drew ((Below.refl _ _).alloc (Nat.le_refl _) _) | exact belowDrewN ((Below.refl _ _).alloc (Nat.le_refl _) _) _⟩)
      subst h2
      by_cases h3 : 0 < nk
      · have h3' : (0 : Int) < (nk : Int) := by omega
        obtain rfl : r = 4 := by rw [← hr]; unfold rcheck; (repeat (first | rw [if_pos (by omega)] | rw [if_neg (by omega)]))
        clear hr
        go_enter Tryd.func75, Tryd.ntmps75
        go_wp2_with (go_at_call 81; with_reducible refine (LA.out _).mono ?_; rintro e w' ⟨rfl, rfl⟩)
        all_goals (go_ret; exact ⟨rfl, by first | exact (Below.refl _ _).alloc (Nat.le_refl _) _ | exact Below.drew ((Below.refl _ _).alloc (Nat.le_refl _) _) | exact belowDrewN ((Below.refl _ _).alloc (Nat.le_refl _) _) _⟩)
      obtain rfl : nk = 0 := by omega
      obtain rfl : r = 0 := by rw [← hr]; unfold rcheck; (repeat (first | rw [if_pos (by omega)] | rw [if_neg (by omega)]))
      clear hr
      go_enter Tryd.func75, Tryd.ntmps75
      go_wp2_with fail
      go_region_with (first | (go_at_call 81; with_reducible refine (LA.out _).mono ?_; rintro e w' ⟨rfl, rfl⟩))
      all_goals (try go_wp2)
      all_goals (go_ret; exact ⟨rfl, by first | exact (Below.refl _ _).alloc (Nat.le_refl _) _ | exact Below.drew ((Below.refl _ _).alloc (Nat.le_refl _) _) | exact belowDrewN ((Below.refl _ _).alloc (Nat.le_refl _) _) _⟩)
  · clear h0
    have LA : Hid (∀ w, Calls Tryd.prog 81 #[.int .i64 2] w fun e w' => e = .returned (.int .i64 1099511627775) ∧ w = w') := fun w => latestR_any 2 1099511627775 (by decide) w
    rcases Int.lt_or_le ki 1 with k1 | k1
    · obtain rfl : r = 4 := by rw [← hr]; unfold rcheck; (repeat (first | rw [if_pos (by omega)] | rw [if_neg (by omega)]))
      clear hr
      go_enter Tryd.func75, Tryd.ntmps75
      go_wp2_with (go_at_call 81; with_reducible refine (LA.out _).mono ?_; rintro e w' ⟨rfl, rfl⟩)
      all_goals (go_ret; exact ⟨rfl, by first | exact (Below.refl _ _).alloc (Nat.le_refl _) _ | exact Below.drew ((Below.refl _ _).alloc (Nat.le_refl _) _) | exact belowDrewN ((Below.refl _ _).alloc (Nat.le_refl _) _) _⟩)
    rcases Int.lt_or_le 3 ki with k2 | k2
    · obtain rfl : r = 4 := by rw [← hr]; unfold rcheck; (repeat (first | rw [if_pos (by omega)] | rw [if_neg (by omega)]))
      clear hr
      go_enter Tryd.func75, Tryd.ntmps75
      go_wp2_with (go_at_call 81; with_reducible refine (LA.out _).mono ?_; rintro e w' ⟨rfl, rfl⟩)
      all_goals (go_ret; exact ⟨rfl, by first | exact (Below.refl _ _).alloc (Nat.le_refl _) _ | exact Below.drew ((Below.refl _ _).alloc (Nat.le_refl _) _) | exact belowDrewN ((Below.refl _ _).alloc (Nat.le_refl _) _) _⟩)
    obtain rfl | rfl | rfl : ki = 1 ∨ ki = 2 ∨ ki = 3 := by omega
    · by_cases h1 : nk = 0
      · subst h1
        obtain rfl : r = 5 := by rw [← hr]; unfold rcheck; (repeat (first | rw [if_pos (by omega)] | rw [if_neg (by omega)]))
        clear hr
        go_enter Tryd.func75, Tryd.ntmps75
        go_wp2_with (go_at_call 81; with_reducible refine (LA.out _).mono ?_; rintro e w' ⟨rfl, rfl⟩)
        all_goals (go_ret; exact ⟨rfl, by first | exact (Below.refl _ _).alloc (Nat.le_refl _) _ | exact Below.drew ((Below.refl _ _).alloc (Nat.le_refl _) _) | exact belowDrewN ((Below.refl _ _).alloc (Nat.le_refl _) _) _⟩)
      have h1' : ((nk : Int) == 0) = false := by simp only [beq_eq_false_iff_ne]; omega
      by_cases h2 : 255 < nk
      · have h2' : (255 : Int) < (nk : Int) := by omega
        obtain rfl : r = 5 := by rw [← hr]; unfold rcheck; (repeat (first | rw [if_pos (by omega)] | rw [if_neg (by omega)]))
        clear hr
        go_enter Tryd.func75, Tryd.ntmps75
        go_wp2_with (go_at_call 81; with_reducible refine (LA.out _).mono ?_; rintro e w' ⟨rfl, rfl⟩)
        all_goals (go_ret; exact ⟨rfl, by first | exact (Below.refl _ _).alloc (Nat.le_refl _) _ | exact Below.drew ((Below.refl _ _).alloc (Nat.le_refl _) _) | exact belowDrewN ((Below.refl _ _).alloc (Nat.le_refl _) _) _⟩)
      have h2' : ¬ (255 : Int) < (nk : Int) := by omega
      by_cases h3 : 65536 < nv
      · have h3' : (65536 : Int) < (nv : Int) := by omega
        obtain rfl : r = 6 := by rw [← hr]; unfold rcheck; (repeat (first | rw [if_pos (by omega)] | rw [if_neg (by omega)]))
        clear hr
        go_enter Tryd.func75, Tryd.ntmps75
        go_wp2_with (go_at_call 81; with_reducible refine (LA.out _).mono ?_; rintro e w' ⟨rfl, rfl⟩)
        all_goals (go_ret; exact ⟨rfl, by first | exact (Below.refl _ _).alloc (Nat.le_refl _) _ | exact Below.drew ((Below.refl _ _).alloc (Nat.le_refl _) _) | exact belowDrewN ((Below.refl _ _).alloc (Nat.le_refl _) _) _⟩)
      have h3' : ¬ (65536 : Int) < (nv : Int) := by omega
      rcases Int.lt_or_le ex 0 with h4 | h4
      · obtain rfl : r = 7 := by rw [← hr]; unfold rcheck; (repeat (first | rw [if_pos (by omega)] | rw [if_neg (by omega)]))
        clear hr
        go_enter Tryd.func75, Tryd.ntmps75
        go_wp2_with fail
        go_quiet (fail)
        go_wp2
        all_goals (go_ret; exact ⟨rfl, by first | exact (Below.refl _ _).alloc (Nat.le_refl _) _ | exact Below.drew ((Below.refl _ _).alloc (Nat.le_refl _) _) | exact belowDrewN ((Below.refl _ _).alloc (Nat.le_refl _) _) _⟩)
      have h4' : decide (ex < 0) = false := decide_eq_false (by omega)
      rcases Int.lt_or_le 1099511627775 ex with h5 | h5
      · have h5' : decide (1099511627775 < ex) = true := decide_eq_true h5
        obtain rfl : r = 7 := by rw [← hr]; unfold rcheck; (repeat (first | rw [if_pos (by omega)] | rw [if_neg (by omega)]))
        clear hr
        go_enter Tryd.func75, Tryd.ntmps75
        go_wp2_with fail
        go_region_with (first | (go_at_call 81; with_reducible refine (LA.out _).mono ?_; rintro e w' ⟨rfl, rfl⟩))
        all_goals (try go_wp2)
        all_goals (go_ret; exact ⟨rfl, by first | exact (Below.refl _ _).alloc (Nat.le_refl _) _ | exact Below.drew ((Below.refl _ _).alloc (Nat.le_refl _) _) | exact belowDrewN ((Below.refl _ _).alloc (Nat.le_refl _) _) _⟩)
      have h5' : decide (1099511627775 < ex) = false := decide_eq_false (by omega)
      obtain rfl : r = 0 := by rw [← hr]; unfold rcheck; (repeat (first | rw [if_pos (by omega)] | rw [if_neg (by omega)]))
      clear hr
      go_enter Tryd.func75, Tryd.ntmps75
      go_wp2_with fail
      go_region_with (first | (go_at_call 81; with_reducible refine (LA.out _).mono ?_; rintro e w' ⟨rfl, rfl⟩))
      all_goals (try go_wp2)
      all_goals (go_ret; exact ⟨rfl, by first | exact (Below.refl _ _).alloc (Nat.le_refl _) _ | exact Below.drew ((Below.refl _ _).alloc (Nat.le_refl _) _) | exact belowDrewN ((Below.refl _ _).alloc (Nat.le_refl _) _) _⟩)
    · by_cases h1 : 0 < nv
      · have h1' : (0 : Int) < (nv : Int) := by omega
        obtain rfl : r = 4 := by rw [← hr]; unfold rcheck; (repeat (first | rw [if_pos (by omega)] | rw [if_neg (by omega)]))
        clear hr
        go_enter Tryd.func75, Tryd.ntmps75
        go_wp2_with (go_at_call 81; with_reducible refine (LA.out _).mono ?_; rintro e w' ⟨rfl, rfl⟩)
        all_goals (go_ret; exact ⟨rfl, by first | exact (Below.refl _ _).alloc (Nat.le_refl _) _ | exact Below.drew ((Below.refl _ _).alloc (Nat.le_refl _) _) | exact belowDrewN ((Below.refl _ _).alloc (Nat.le_refl _) _) _⟩)
      obtain rfl : nv = 0 := by omega
      by_cases h2 : ex = 0
      rotate_left
      · obtain rfl : r = 4 := by rw [← hr]; unfold rcheck; (repeat (first | rw [if_pos (by omega)] | rw [if_neg (by omega)]))
        clear hr
        go_enter Tryd.func75, Tryd.ntmps75
        go_wp2_with (go_at_call 81; with_reducible refine (LA.out _).mono ?_; rintro e w' ⟨rfl, rfl⟩)
        all_goals (go_ret; exact ⟨rfl, by first | exact (Below.refl _ _).alloc (Nat.le_refl _) _ | exact Below.drew ((Below.refl _ _).alloc (Nat.le_refl _) _) | exact belowDrewN ((Below.refl _ _).alloc (Nat.le_refl _) _) _⟩)
      subst h2
      by_cases h3 : nk = 0
      · subst h3
        obtain rfl : r = 5 := by rw [← hr]; unfold rcheck; (repeat (first | rw [if_pos (by omega)] | rw [if_neg (by omega)]))
        clear hr
        go_enter Tryd.func75, Tryd.ntmps75
        go_wp2_with (go_at_call 81; with_reducible refine (LA.out _).mono ?_; rintro e w' ⟨rfl, rfl⟩)
        all_goals (go_ret; exact ⟨rfl, by first | exact (Below.refl _ _).alloc (Nat.le_refl _) _ | exact Below.drew ((Below.refl _ _).alloc (Nat.le_refl _) _) | exact belowDrewN ((Below.refl _ _).alloc (Nat.le_refl _) _) _⟩)
      have h3' : ((nk : Int) == 0) = false := by simp only [beq_eq_false_iff_ne]; omega
      by_cases h4 : 255 < nk
      · have h4' : (255 : Int) < (nk : Int) := by omega
        obtain rfl : r = 5 := by rw [← hr]; unfold rcheck; (repeat (first | rw [if_pos (by omega)] | rw [if_neg (by omega)]))
        clear hr
        go_enter Tryd.func75, Tryd.ntmps75
        go_wp2_with (go_at_call 81; with_reducible refine (LA.out _).mono ?_; rintro e w' ⟨rfl, rfl⟩)
        all_goals (go_ret; exact ⟨rfl, by first | exact (Below.refl _ _).alloc (Nat.le_refl _) _ | exact Below.drew ((Below.refl _ _).alloc (Nat.le_refl _) _) | exact belowDrewN ((Below.refl _ _).alloc (Nat.le_refl _) _) _⟩)
      have h4' : ¬ (255 : Int) < (nk : Int) := by omega
      obtain rfl : r = 0 := by rw [← hr]; unfold rcheck; (repeat (first | rw [if_pos (by omega)] | rw [if_neg (by omega)]))
      clear hr
      go_enter Tryd.func75, Tryd.ntmps75
      go_wp2_with fail
      go_region_with (first | (go_at_call 81; with_reducible refine (LA.out _).mono ?_; rintro e w' ⟨rfl, rfl⟩))
      all_goals (try go_wp2)
      all_goals (go_ret; exact ⟨rfl, by first | exact (Below.refl _ _).alloc (Nat.le_refl _) _ | exact Below.drew ((Below.refl _ _).alloc (Nat.le_refl _) _) | exact belowDrewN ((Below.refl _ _).alloc (Nat.le_refl _) _) _⟩)
    · by_cases h1 : 0 < nv
      · have h1' : (0 : Int) < (nv : Int) := by omega
        obtain rfl : r = 4 := by rw [← hr]; unfold rcheck; (repeat (first | rw [if_pos (by omega)] | rw [if_neg (by omega)]))
        clear hr
        go_enter Tryd.func75, Tryd.ntmps75
        go_wp2_with (go_at_call 81; with_reducible refine (LA.out _).mono ?_; rintro e w' ⟨rfl, rfl⟩)
        all_goals (go_ret; exact ⟨rfl, by first | exact (Below.refl _ _).alloc (Nat.le_refl _) _ | exact Below.drew ((Below.refl _ _).alloc (Nat.le_refl _) _) | exact belowDrewN ((Below.refl _ _).alloc (Nat.le_refl _) _) _⟩)
      obtain rfl : nv = 0 := by omega
      by_cases h2 : ex = 0
      rotate_left
      · obtain rfl : r = 4 := by rw [← hr]; unfold rcheck; (repeat (first | rw [if_pos (by omega)] | rw [if_neg (by omega)]))
        clear hr
        go_enter Tryd.func75, Tryd.ntmps75
        go_wp2_with (go_at_call 81; with_reducible refine (LA.out _).mono ?_; rintro e w' ⟨rfl, rfl⟩)
        all_goals (go_ret; exact ⟨rfl, by first | exact (Below.refl _ _).alloc (Nat.le_refl _) _ | exact Below.drew ((Below.refl _ _).alloc (Nat.le_refl _) _) | exact belowDrewN ((Below.refl _ _).alloc (Nat.le_refl _) _) _⟩)
      subst h2
      by_cases h3 : 0 < nk
      · have h3' : (0 : Int) < (nk : Int) := by omega
        obtain rfl : r = 4 := by rw [← hr]; unfold rcheck; (repeat (first | rw [if_pos (by omega)] | rw [if_neg (by omega)]))
        clear hr
        go_enter Tryd.func75, Tryd.ntmps75
        go_wp2_with (go_at_call 81; with_reducible refine (LA.out _).mono ?_; rintro e w' ⟨rfl, rfl⟩)
        all_goals (go_ret; exact ⟨rfl, by first | exact (Below.refl _ _).alloc (Nat.le_refl _) _ | exact Below.drew ((Below.refl _ _).alloc (Nat.le_refl _) _) | exact belowDrewN ((Below.refl _ _).alloc (Nat.le_refl _) _) _⟩)
      obtain rfl : nk = 0 := by omega
      obtain rfl : r = 0 := by rw [← hr]; unfold rcheck; (repeat (first | rw [if_pos (by omega)] | rw [if_neg (by omega)]))
      clear hr
      go_enter Tryd.func75, Tryd.ntmps75
      go_wp2_with fail
      go_region_with (first | (go_at_call 81; with_reducible refine (LA.out _).mono ?_; rintro e w' ⟨rfl, rfl⟩))
      all_goals (try go_wp2)
      all_goals (go_ret; exact ⟨rfl, by first | exact (Below.refl _ _).alloc (Nat.le_refl _) _ | exact Below.drew ((Below.refl _ _).alloc (Nat.le_refl _) _) | exact belowDrewN ((Below.refl _ _).alloc (Nat.le_refl _) _) _⟩)

end Go.Proofs.YthgpmnblkhehkaaDoor
