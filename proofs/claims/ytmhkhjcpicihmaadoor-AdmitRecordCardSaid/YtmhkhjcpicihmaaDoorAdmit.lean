/- The walks of admit.Check and its reference, Admit, Length, Capacity. -/
import Derived.Test.YtmhkhjcpicihmaaDoorFormRef
namespace Go.Proofs.YtmhkhjcpicihmaaDoor
open Go.RowKit

set_option maxHeartbeats 400000 in
theorem alength_any (k e : Int) (A A' : Option Addr) (n n' c c' : Nat) (hn : n ≤ 1000000) (hn' : n' ≤ 1000000) (w : World) :
    Calls Tryd.prog 13 #[.agg #[.int .i64 k, .slice A n c, .slice A' n' c', .int .i64 e]] w fun e' w' => e' = .returned (.int .i64 (16 + n + n' : Int)) ∧ Below w.heap.size w w' := by
  go_enter Tryd.func13, Tryd.ntmps13
  go_wp2
  go_ret
  exact ⟨rfl, (Below.refl _ _).alloc (Nat.le_refl _) _⟩

/-- What a region holds. -/
def capS (a b c d : Int) : Int := if form a b c d = true then (c - 1) * 59 else 0
set_option maxHeartbeats 400000 in
theorem capacity_any (a b c d : Int) (ha : I64 a) (hb : I64 b) (hc : I64 c) (hd : I64 d) (r : Int) (hr : capS a b c d = r) (w : World) :
    Calls Tryd.prog 14 #[.agg #[.int .i64 a, .int .i64 b, .int .i64 c, .int .i64 d]] w fun e w' => e = .returned (.int .i64 r) ∧ Below w.heap.size w w' := by
  have C := Lib.hid (form_any a b c d ha hb hc hd)
  cases hf : form a b c d
  · obtain rfl : r = 0 := by rw [← hr, capS, if_neg (by rw [hf]; decide)]
    rw [hf] at C
    clear hf hr
    unfold I64 at *
    go_enter Tryd.func14, Tryd.ntmps14
    go_wp2_with (go_at_call 11; refine (C.out _).mono ?_; rintro e w1 ⟨rfl, hb1⟩; obtain ⟨hcc, hcf⟩ := below_cells hb1)
    go_ret
    exact ⟨rfl, ((Below.refl _ _).alloc (Nat.le_refl _) _).trans (hb1.mono (by simp))⟩
  · obtain rfl : r = (c - 1) * 59 := by rw [← hr, capS, if_pos hf]
    obtain ⟨_, _, _, h1, h2, _⟩ := form_true hf
    rw [hf] at C
    clear hf hr
    unfold I64 at *
    go_enter Tryd.func14, Tryd.ntmps14
    go_wp2_with (go_at_call 11; refine (C.out _).mono ?_; rintro e w1 ⟨rfl, hb1⟩; obtain ⟨hcc, hcf⟩ := below_cells hb1)
    go_ret
    exact ⟨rfl, ((Below.refl _ _).alloc (Nat.le_refl _) _).trans (hb1.mono (by simp))⟩


/-- Admit. -/
def admitS (ev pr : Bool) (est : Int) : Bool := !ev || pr || decide (2 ≤ est)
set_option maxHeartbeats 400000 in
theorem admit_any (ev pr : Bool) (est : Int) (w : World) :
    Calls Tryd.prog 10 #[.bool ev, .bool pr, .int .i64 est] w fun e w' => e = .returned (.bool (admitS ev pr est)) ∧ w = w' := by
  cases ev
  · go_enter Tryd.func10, Tryd.ntmps10
    go_wp2
    go_ret
    exact ⟨by simp [admitS], rfl⟩
  · cases pr
    · go_enter Tryd.func10, Tryd.ntmps10
      go_wp2
      go_ret
      exact ⟨by simp [admitS], rfl⟩
    · go_enter Tryd.func10, Tryd.ntmps10
      go_wp2
      go_ret
      exact ⟨by simp [admitS], rfl⟩

/-- The greatest expiry of a format. -/
def mostS (b : Int) : Int := if b = 1 then 4294967295 else 1099511627775
set_option maxHeartbeats 400000 in
theorem latest_any (b m : Int) (hm : mostS b = m) (w : World) :
    Calls Tryd.prog 12 #[.int .i64 b] w fun e w' => e = .returned (.int .i64 m) ∧ w = w' := by
  by_cases h : b = 1
  · obtain rfl : m = 4294967295 := by rw [← hm, mostS, if_pos h]
    subst h
    clear hm
    go_enter Tryd.func12, Tryd.ntmps12
    go_wp2
    go_ret
    exact ⟨rfl, rfl⟩
  · obtain rfl : m = 1099511627775 := by rw [← hm, mostS, if_neg h]
    clear hm
    go_enter Tryd.func12, Tryd.ntmps12
    go_wp2
    go_ret
    exact ⟨rfl, rfl⟩
end Go.Proofs.YtmhkhjcpicihmaaDoor
