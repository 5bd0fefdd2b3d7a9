/- The walk of the reference's Eq of records. -/
import Derived.Test.YtecmopfaeopmdaaDoorRecAwake
namespace Go.Proofs.YtecmopfaeopmdaaDoor
open Go.RowKit

theorem ofDrewNs {B : Nat} {a w : World} (h : Below B a w) (n : Nat) : Below B a (w.drewN n) := ⟨h.os, h.tape, h.output, h.size, h.block⟩

set_option maxHeartbeats 4000000 in
theorem refREq_any (ki ex ki' ex' : Int) (key val key' val' : List UInt8) (Ak Av Ak' Av' : Option Addr) (nk ck nv cv nk' ck' nv' cv' B : Nat) (w : World) (hk : Byt w B Ak nk key) (hv : Byt w B Av nv val) (hk' : Byt w B Ak' nk' key') (hv' : Byt w B Av' nv' val') (hB : B ≤ w.heap.size) (n1 : nk ≤ 1000000) (n2 : nv ≤ 1000000) (n3 : nk' ≤ 1000000) (n4 : nv' ≤ 1000000) (r : Bool) (hr : decide (ki = ki' ∧ ex = ex' ∧ key = key' ∧ val = val') = r) :
    Calls Tryd.prog 28 #[.agg #[.int .i64 ki, .slice Ak nk ck, .slice Av nv cv, .int .i64 ex], .agg #[.int .i64 ki', .slice Ak' nk' ck', .slice Av' nv' cv', .int .i64 ex']] w fun e w' => e = .returned (.bool r) ∧ Below w.heap.size w w' := by
  have HK : Hid (∀ w', Below w.heap.size w w' → Byt w' w.heap.size Ak nk key) := fun w' hw => (hk.more hB).below hw
  have HV : Hid (∀ w', Below w.heap.size w w' → Byt w' w.heap.size Av nv val) := fun w' hw => (hv.more hB).below hw
  have HK' : Hid (∀ w', Below w.heap.size w w' → Byt w' w.heap.size Ak' nk' key') := fun w' hw => (hk'.more hB).below hw
  have HV' : Hid (∀ w', Below w.heap.size w w' → Byt w' w.heap.size Av' nv' val') := fun w' hw => (hv'.more hB).below hw
  have m1 : nk ≤ 9223372036854775807 := by omega
  have m2 : nv ≤ 9223372036854775807 := by omega
  have m3 : nk' ≤ 9223372036854775807 := by omega
  have m4 : nv' ≤ 9223372036854775807 := by omega
  clear hk hv hk' hv' hB n1 n2 n3 n4
  by_cases hne : ki = ki'
  rotate_left
  · obtain rfl : r = false := by rw [← hr]; exact decide_eq_false (fun h => hne h.1)
    clear hr
    have HB0 := Lib.hid (((Below.refl w.heap.size w).alloc (Nat.le_refl _) (.cells #[.int .i64 ki, .slice Ak nk ck, .slice Av nv cv, .int .i64 ex] 33)).alloc (by simp) (.cells #[.int .i64 ki', .slice Ak' nk' ck', .slice Av' nv' cv', .int .i64 ex'] 33))
    go_enter Tryd.func28, Tryd.ntmps28
    go_wp2
    go_ret
    exact ⟨rfl, HB0.out⟩
  subst hne
  by_cases hne : ex = ex'
  rotate_left
  · obtain rfl : r = false := by rw [← hr]; exact decide_eq_false (fun h => hne h.2.1)
    clear hr
    have HB0 := Lib.hid (((Below.refl w.heap.size w).alloc (Nat.le_refl _) (.cells #[.int .i64 ki, .slice Ak nk ck, .slice Av nv cv, .int .i64 ex] 33)).alloc (by simp) (.cells #[.int .i64 ki, .slice Ak' nk' ck', .slice Av' nv' cv', .int .i64 ex'] 33))
    go_enter Tryd.func28, Tryd.ntmps28
    go_wp2
    go_ret
    exact ⟨rfl, HB0.out⟩
  subst hne
  by_cases hek : key = key'
  rotate_left
  · have hne := hek
    obtain rfl : r = false := by rw [← hr]; exact decide_eq_false (fun h => hne h.2.2.1)
    clear hr
    have HB0 := Lib.hid (((Below.refl w.heap.size w).alloc (Nat.le_refl _) (.cells #[.int .i64 ki, .slice Ak nk ck, .slice Av nv cv, .int .i64 ex] 33)).alloc (by simp) (.cells #[.int .i64 ki, .slice Ak' nk' ck', .slice Av' nv' cv', .int .i64 ex] 33))
    go_enter Tryd.func28, Tryd.ntmps28
    go_wp2_with fail
    refine (eq_any key key' Ak Ak' nk nk' ck ck' _ _ _ (HK.out _ HB0.out) (HK'.out _ HB0.out) m1 m3).mono ?_
    rintro e w' ⟨rfl, q, rfl⟩
    rw [decide_eq_false hne]
    go_wp2
    go_ret
    exact ⟨rfl, ofDrewNs HB0.out _⟩
  by_cases hev : val = val'
  rotate_left
  · have hne := hev
    obtain rfl : r = false := by rw [← hr]; exact decide_eq_false (fun h => hne h.2.2.2)
    clear hr
    have HB0 := Lib.hid (((Below.refl w.heap.size w).alloc (Nat.le_refl _) (.cells #[.int .i64 ki, .slice Ak nk ck, .slice Av nv cv, .int .i64 ex] 33)).alloc (by simp) (.cells #[.int .i64 ki, .slice Ak' nk' ck', .slice Av' nv' cv', .int .i64 ex] 33))
    go_enter Tryd.func28, Tryd.ntmps28
    go_wp2_with fail
    refine (eq_any key key' Ak Ak' nk nk' ck ck' _ _ _ (HK.out _ HB0.out) (HK'.out _ HB0.out) m1 m3).mono ?_
    rintro e w' ⟨rfl, q, rfl⟩
    rw [decide_eq_true hek]
    have HB1 := Lib.hid (ofDrewNs HB0.out q)
    go_wp2_with fail
    refine (eq_any val val' Av Av' nv nv' cv cv' _ _ _ (HV.out _ HB1.out) (HV'.out _ HB1.out) m2 m4).mono ?_
    rintro e w' ⟨rfl, q2, rfl⟩
    rw [decide_eq_false hne]
    go_wp2
    go_ret
    exact ⟨rfl, ofDrewNs HB0.out _⟩
  obtain rfl : r = true := by rw [← hr]; exact decide_eq_true ⟨rfl, rfl, hek, hev⟩
  clear hr
  have HB0 := Lib.hid (((Below.refl w.heap.size w).alloc (Nat.le_refl _) (.cells #[.int .i64 ki, .slice Ak nk ck, .slice Av nv cv, .int .i64 ex] 33)).alloc (by simp) (.cells #[.int .i64 ki, .slice Ak' nk' ck', .slice Av' nv' cv', .int .i64 ex] 33))
  go_enter Tryd.func28, Tryd.ntmps28
  go_wp2_with fail
  refine (eq_any key key' Ak Ak' nk nk' ck ck' _ _ _ (HK.out _ HB0.out) (HK'.out _ HB0.out) m1 m3).mono ?_
  rintro e w' ⟨rfl, q, rfl⟩
  rw [decide_eq_true hek]
  have HB1 := Lib.hid (ofDrewNs HB0.out q)
  go_wp2_with fail
  refine (eq_any val val' Av Av' nv nv' cv cv' _ _ _ (HV.out _ HB1.out) (HV'.out _ HB1.out) m2 m4).mono ?_
  rintro e w' ⟨rfl, q2, rfl⟩
  rw [decide_eq_true hev]
  go_wp2
  go_ret
  exact ⟨rfl, ofDrewNs HB0.out _⟩
end Go.Proofs.YtecmopfaeopmdaaDoor
