/- The walks of header.Valid and of its reference. -/
import Derived.Test.YthgpmnblkhehkaaDoorHeader
import Derived.Test.YthgpmnblkhehkaaDoorFrameWalk
namespace Go.Proofs.YthgpmnblkhehkaaDoor
open Go.RowKit

set_option maxHeartbeats 8000000 in
theorem hvalid_any (a b c d e f : Int) (v : Bool) (hv : hvalid (a, b, c, d, e, f) = v) (w : World) :
    Calls Tryd.prog 30 #[.agg #[.int .i64 a, .int .i64 b, .int .i64 c, .int .i64 d, .int .i64 e, .int .i64 f]] w fun e' w' => e' = .returned (.bool v) ∧ Below w.heap.size w w' := by
  have h := hvalid_iff a b c d e f
  rw [hv] at h
  have HI := Lib.hid h
  clear hv h
  by_cases h1 : a = 1 ∨ a = 2
  · rcases h1 with rfl | rfl
    · rcases Int.lt_or_le (b) (0) with g0 | k0
      · obtain rfl : v = false := by
          cases v
          · rfl
          · exact absurd (HI.out.1 rfl) (by omega)
        go_enter Tryd.func30, Tryd.ntmps30
        go_wp2
        go_ret
        exact ⟨by first | rfl | exact congrArg (fun b => Ending.returned (.bool b)) (decide_eq_false (by omega)) | exact congrArg (fun b => Ending.returned (.bool b)) (decide_eq_true (by omega)), (Below.refl _ _).alloc (Nat.le_refl _) _⟩
      rcases Int.lt_or_le (b) (16) with k1 | g0
      rotate_left
      · obtain rfl : v = false := by
          cases v
          · rfl
          · exact absurd (HI.out.1 rfl) (by omega)
        go_enter Tryd.func30, Tryd.ntmps30
        go_wp2
        go_ret
        exact ⟨by first | rfl | exact congrArg (fun b => Ending.returned (.bool b)) (decide_eq_false (by omega)) | exact congrArg (fun b => Ending.returned (.bool b)) (decide_eq_true (by omega)), (Below.refl _ _).alloc (Nat.le_refl _) _⟩
      rcases Int.lt_or_le (c) (1) with g0 | k2
      · obtain rfl : v = false := by
          cases v
          · rfl
          · exact absurd (HI.out.1 rfl) (by omega)
        go_enter Tryd.func30, Tryd.ntmps30
        go_wp2
        go_ret
        exact ⟨by first | rfl | exact congrArg (fun b => Ending.returned (.bool b)) (decide_eq_false (by omega)) | exact congrArg (fun b => Ending.returned (.bool b)) (decide_eq_true (by omega)), (Below.refl _ _).alloc (Nat.le_refl _) _⟩
      rcases Int.lt_or_le (4294967295) (c) with g0 | k3
      · obtain rfl : v = false := by
          cases v
          · rfl
          · exact absurd (HI.out.1 rfl) (by omega)
        go_enter Tryd.func30, Tryd.ntmps30
        go_wp2
        go_ret
        exact ⟨by first | rfl | exact congrArg (fun b => Ending.returned (.bool b)) (decide_eq_false (by omega)) | exact congrArg (fun b => Ending.returned (.bool b)) (decide_eq_true (by omega)), (Below.refl _ _).alloc (Nat.le_refl _) _⟩
      rcases Int.lt_or_le (d) (1) with g0 | k4
      · obtain rfl : v = false := by
          cases v
          · rfl
          · exact absurd (HI.out.1 rfl) (by omega)
        go_enter Tryd.func30, Tryd.ntmps30
        go_wp2
        go_ret
        exact ⟨by first | rfl | exact congrArg (fun b => Ending.returned (.bool b)) (decide_eq_false (by omega)) | exact congrArg (fun b => Ending.returned (.bool b)) (decide_eq_true (by omega)), (Below.refl _ _).alloc (Nat.le_refl _) _⟩
      rcases Int.lt_or_le (281474976710655) (d) with g0 | k5
      · obtain rfl : v = false := by
          cases v
          · rfl
          · exact absurd (HI.out.1 rfl) (by omega)
        go_enter Tryd.func30, Tryd.ntmps30
        go_wp2
        go_ret
        exact ⟨by first | rfl | exact congrArg (fun b => Ending.returned (.bool b)) (decide_eq_false (by omega)) | exact congrArg (fun b => Ending.returned (.bool b)) (decide_eq_true (by omega)), (Below.refl _ _).alloc (Nat.le_refl _) _⟩
      rcases Int.lt_or_le (e) (0) with g0 | k6
      · obtain rfl : v = false := by
          cases v
          · rfl
          · exact absurd (HI.out.1 rfl) (by omega)
        go_enter Tryd.func30, Tryd.ntmps30
        go_wp2
        go_ret
        exact ⟨by first | rfl | exact congrArg (fun b => Ending.returned (.bool b)) (decide_eq_false (by omega)) | exact congrArg (fun b => Ending.returned (.bool b)) (decide_eq_true (by omega)), (Below.refl _ _).alloc (Nat.le_refl _) _⟩
      rcases Int.lt_or_le (d) (e) with g0 | k7
      · obtain rfl : v = false := by
          cases v
          · rfl
          · exact absurd (HI.out.1 rfl) (by omega)
        go_enter Tryd.func30, Tryd.ntmps30
        go_wp2
        go_ret
        exact ⟨by first | rfl | exact congrArg (fun b => Ending.returned (.bool b)) (decide_eq_false (by omega)) | exact congrArg (fun b => Ending.returned (.bool b)) (decide_eq_true (by omega)), (Below.refl _ _).alloc (Nat.le_refl _) _⟩
      rcases Int.lt_or_le (f) (0) with g0 | k8
      · obtain rfl : v = false := by
          cases v
          · rfl
          · exact absurd (HI.out.1 rfl) (by omega)
        go_enter Tryd.func30, Tryd.ntmps30
        go_wp2
        go_ret
        exact ⟨by first | rfl | exact congrArg (fun b => Ending.returned (.bool b)) (decide_eq_false (by omega)) | exact congrArg (fun b => Ending.returned (.bool b)) (decide_eq_true (by omega)), (Below.refl _ _).alloc (Nat.le_refl _) _⟩
      rcases Int.lt_or_le (549755813888) (f) with g0 | k9
      · obtain rfl : v = false := by
          cases v
          · rfl
          · exact absurd (HI.out.1 rfl) (by omega)
        go_enter Tryd.func30, Tryd.ntmps30
        go_wp2
        go_ret
        exact ⟨by first | rfl | exact congrArg (fun b => Ending.returned (.bool b)) (decide_eq_false (by omega)) | exact congrArg (fun b => Ending.returned (.bool b)) (decide_eq_true (by omega)), (Below.refl _ _).alloc (Nat.le_refl _) _⟩
      obtain rfl : v = true := HI.out.2 (by omega)
      go_enter Tryd.func30, Tryd.ntmps30
      go_wp2
      go_ret
      exact ⟨by first | rfl | exact congrArg (fun b => Ending.returned (.bool b)) (decide_eq_false (by omega)) | exact congrArg (fun b => Ending.returned (.bool b)) (decide_eq_true (by omega)), (Below.refl _ _).alloc (Nat.le_refl _) _⟩
    · rcases Int.lt_or_le (b) (0) with g0 | k0
      · obtain rfl : v = false := by
          cases v
          · rfl
          · exact absurd (HI.out.1 rfl) (by omega)
        go_enter Tryd.func30, Tryd.ntmps30
        go_wp2
        go_ret
        exact ⟨by first | rfl | exact congrArg (fun b => Ending.returned (.bool b)) (decide_eq_false (by omega)) | exact congrArg (fun b => Ending.returned (.bool b)) (decide_eq_true (by omega)), (Below.refl _ _).alloc (Nat.le_refl _) _⟩
      rcases Int.lt_or_le (b) (16) with k1 | g0
      rotate_left
      · obtain rfl : v = false := by
          cases v
          · rfl
          · exact absurd (HI.out.1 rfl) (by omega)
        go_enter Tryd.func30, Tryd.ntmps30
        go_wp2
        go_ret
        exact ⟨by first | rfl | exact congrArg (fun b => Ending.returned (.bool b)) (decide_eq_false (by omega)) | exact congrArg (fun b => Ending.returned (.bool b)) (decide_eq_true (by omega)), (Below.refl _ _).alloc (Nat.le_refl _) _⟩
      rcases Int.lt_or_le (c) (1) with g0 | k2
      · obtain rfl : v = false := by
          cases v
          · rfl
          · exact absurd (HI.out.1 rfl) (by omega)
        go_enter Tryd.func30, Tryd.ntmps30
        go_wp2
        go_ret
        exact ⟨by first | rfl | exact congrArg (fun b => Ending.returned (.bool b)) (decide_eq_false (by omega)) | exact congrArg (fun b => Ending.returned (.bool b)) (decide_eq_true (by omega)), (Below.refl _ _).alloc (Nat.le_refl _) _⟩
      rcases Int.lt_or_le (4294967295) (c) with g0 | k3
      · obtain rfl : v = false := by
          cases v
          · rfl
          · exact absurd (HI.out.1 rfl) (by omega)
        go_enter Tryd.func30, Tryd.ntmps30
        go_wp2
        go_ret
        exact ⟨by first | rfl | exact congrArg (fun b => Ending.returned (.bool b)) (decide_eq_false (by omega)) | exact congrArg (fun b => Ending.returned (.bool b)) (decide_eq_true (by omega)), (Below.refl _ _).alloc (Nat.le_refl _) _⟩
      rcases Int.lt_or_le (d) (1) with g0 | k4
      · obtain rfl : v = false := by
          cases v
          · rfl
          · exact absurd (HI.out.1 rfl) (by omega)
        go_enter Tryd.func30, Tryd.ntmps30
        go_wp2
        go_ret
        exact ⟨by first | rfl | exact congrArg (fun b => Ending.returned (.bool b)) (decide_eq_false (by omega)) | exact congrArg (fun b => Ending.returned (.bool b)) (decide_eq_true (by omega)), (Below.refl _ _).alloc (Nat.le_refl _) _⟩
      rcases Int.lt_or_le (281474976710655) (d) with g0 | k5
      · obtain rfl : v = false := by
          cases v
          · rfl
          · exact absurd (HI.out.1 rfl) (by omega)
        go_enter Tryd.func30, Tryd.ntmps30
        go_wp2
        go_ret
        exact ⟨by first | rfl | exact congrArg (fun b => Ending.returned (.bool b)) (decide_eq_false (by omega)) | exact congrArg (fun b => Ending.returned (.bool b)) (decide_eq_true (by omega)), (Below.refl _ _).alloc (Nat.le_refl _) _⟩
      rcases Int.lt_or_le (e) (0) with g0 | k6
      · obtain rfl : v = false := by
          cases v
          · rfl
          · exact absurd (HI.out.1 rfl) (by omega)
        go_enter Tryd.func30, Tryd.ntmps30
        go_wp2
        go_ret
        exact ⟨by first | rfl | exact congrArg (fun b => Ending.returned (.bool b)) (decide_eq_false (by omega)) | exact congrArg (fun b => Ending.returned (.bool b)) (decide_eq_true (by omega)), (Below.refl _ _).alloc (Nat.le_refl _) _⟩
      rcases Int.lt_or_le (d) (e) with g0 | k7
      · obtain rfl : v = false := by
          cases v
          · rfl
          · exact absurd (HI.out.1 rfl) (by omega)
        go_enter Tryd.func30, Tryd.ntmps30
        go_wp2
        go_ret
        exact ⟨by first | rfl | exact congrArg (fun b => Ending.returned (.bool b)) (decide_eq_false (by omega)) | exact congrArg (fun b => Ending.returned (.bool b)) (decide_eq_true (by omega)), (Below.refl _ _).alloc (Nat.le_refl _) _⟩
      rcases Int.lt_or_le (f) (0) with g0 | k8
      · obtain rfl : v = false := by
          cases v
          · rfl
          · exact absurd (HI.out.1 rfl) (by omega)
        go_enter Tryd.func30, Tryd.ntmps30
        go_wp2
        go_ret
        exact ⟨by first | rfl | exact congrArg (fun b => Ending.returned (.bool b)) (decide_eq_false (by omega)) | exact congrArg (fun b => Ending.returned (.bool b)) (decide_eq_true (by omega)), (Below.refl _ _).alloc (Nat.le_refl _) _⟩
      rcases Int.lt_or_le (549755813888) (f) with g0 | k9
      · obtain rfl : v = false := by
          cases v
          · rfl
          · exact absurd (HI.out.1 rfl) (by omega)
        go_enter Tryd.func30, Tryd.ntmps30
        go_wp2
        go_ret
        exact ⟨by first | rfl | exact congrArg (fun b => Ending.returned (.bool b)) (decide_eq_false (by omega)) | exact congrArg (fun b => Ending.returned (.bool b)) (decide_eq_true (by omega)), (Below.refl _ _).alloc (Nat.le_refl _) _⟩
      obtain rfl : v = true := HI.out.2 (by omega)
      go_enter Tryd.func30, Tryd.ntmps30
      go_wp2
      go_ret
      exact ⟨by first | rfl | exact congrArg (fun b => Ending.returned (.bool b)) (decide_eq_false (by omega)) | exact congrArg (fun b => Ending.returned (.bool b)) (decide_eq_true (by omega)), (Below.refl _ _).alloc (Nat.le_refl _) _⟩
  · obtain rfl : v = false := by
      cases v
      · rfl
      · exact absurd (HI.out.1 rfl) (by omega)
    have h2 : ¬ a = 1 := fun h => h1 (.inl h)
    have h3 : ¬ a = 2 := fun h => h1 (.inr h)
    clear h1
    go_enter Tryd.func30, Tryd.ntmps30
    go_wp2
    go_ret
    exact ⟨by first | rfl | exact congrArg (fun b => Ending.returned (.bool b)) (decide_eq_false (by omega)) | exact congrArg (fun b => Ending.returned (.bool b)) (decide_eq_true (by omega)), (Below.refl _ _).alloc (Nat.le_refl _) _⟩

set_option maxHeartbeats 8000000 in
theorem refHvalid_any (a b c d e f : Int) (v : Bool) (hv : hvalid (a, b, c, d, e, f) = v) (w : World) :
    Calls Tryd.prog 42 #[.agg #[.int .i64 a, .int .i64 b, .int .i64 c, .int .i64 d, .int .i64 e, .int .i64 f]] w fun e' w' => e' = .returned (.bool v) ∧ Below w.heap.size w w' := by
  have h := hvalid_iff a b c d e f
  rw [hv] at h
  have HI := Lib.hid h
  clear hv h
  by_cases h1 : a = 1 ∨ a = 2
  · rcases h1 with rfl | rfl
    · rcases Int.lt_or_le (b) (0) with g0 | k0
      · obtain rfl : v = false := by
          cases v
          · rfl
          · exact absurd (HI.out.1 rfl) (by omega)
        go_enter Tryd.func42, Tryd.ntmps42
        go_wp2
        go_ret
        exact ⟨by first | rfl | exact congrArg (fun b => Ending.returned (.bool b)) (decide_eq_false (by omega)) | exact congrArg (fun b => Ending.returned (.bool b)) (decide_eq_true (by omega)), (Below.refl _ _).alloc (Nat.le_refl _) _⟩
      rcases Int.lt_or_le (b) (16) with k1 | g0
      rotate_left
      · obtain rfl : v = false := by
          cases v
          · rfl
          · exact absurd (HI.out.1 rfl) (by omega)
        go_enter Tryd.func42, Tryd.ntmps42
        go_wp2
        go_ret
        exact ⟨by first | rfl | exact congrArg (fun b => Ending.returned (.bool b)) (decide_eq_false (by omega)) | exact congrArg (fun b => Ending.returned (.bool b)) (decide_eq_true (by omega)), (Below.refl _ _).alloc (Nat.le_refl _) _⟩
      rcases Int.lt_or_le (c) (1) with g0 | k2
      · obtain rfl : v = false := by
          cases v
          · rfl
          · exact absurd (HI.out.1 rfl) (by omega)
        go_enter Tryd.func42, Tryd.ntmps42
        go_wp2
        go_ret
        exact ⟨by first | rfl | exact congrArg (fun b => Ending.returned (.bool b)) (decide_eq_false (by omega)) | exact congrArg (fun b => Ending.returned (.bool b)) (decide_eq_true (by omega)), (Below.refl _ _).alloc (Nat.le_refl _) _⟩
      rcases Int.lt_or_le (4294967295) (c) with g0 | k3
      · obtain rfl : v = false := by
          cases v
          · rfl
          · exact absurd (HI.out.1 rfl) (by omega)
        go_enter Tryd.func42, Tryd.ntmps42
        go_wp2
        go_ret
        exact ⟨by first | rfl | exact congrArg (fun b => Ending.returned (.bool b)) (decide_eq_false (by omega)) | exact congrArg (fun b => Ending.returned (.bool b)) (decide_eq_true (by omega)), (Below.refl _ _).alloc (Nat.le_refl _) _⟩
      rcases Int.lt_or_le (d) (1) with g0 | k4
      · obtain rfl : v = false := by
          cases v
          · rfl
          · exact absurd (HI.out.1 rfl) (by omega)
        go_enter Tryd.func42, Tryd.ntmps42
        go_wp2
        go_ret
        exact ⟨by first | rfl | exact congrArg (fun b => Ending.returned (.bool b)) (decide_eq_false (by omega)) | exact congrArg (fun b => Ending.returned (.bool b)) (decide_eq_true (by omega)), (Below.refl _ _).alloc (Nat.le_refl _) _⟩
      rcases Int.lt_or_le (281474976710655) (d) with g0 | k5
      · obtain rfl : v = false := by
          cases v
          · rfl
          · exact absurd (HI.out.1 rfl) (by omega)
        go_enter Tryd.func42, Tryd.ntmps42
        go_wp2
        go_ret
        exact ⟨by first | rfl | exact congrArg (fun b => Ending.returned (.bool b)) (decide_eq_false (by omega)) | exact congrArg (fun b => Ending.returned (.bool b)) (decide_eq_true (by omega)), (Below.refl _ _).alloc (Nat.le_refl _) _⟩
      rcases Int.lt_or_le (e) (0) with g0 | k6
      · obtain rfl : v = false := by
          cases v
          · rfl
          · exact absurd (HI.out.1 rfl) (by omega)
        go_enter Tryd.func42, Tryd.ntmps42
        go_wp2
        go_ret
        exact ⟨by first | rfl | exact congrArg (fun b => Ending.returned (.bool b)) (decide_eq_false (by omega)) | exact congrArg (fun b => Ending.returned (.bool b)) (decide_eq_true (by omega)), (Below.refl _ _).alloc (Nat.le_refl _) _⟩
      rcases Int.lt_or_le (d) (e) with g0 | k7
      · obtain rfl : v = false := by
          cases v
          · rfl
          · exact absurd (HI.out.1 rfl) (by omega)
        go_enter Tryd.func42, Tryd.ntmps42
        go_wp2
        go_ret
        exact ⟨by first | rfl | exact congrArg (fun b => Ending.returned (.bool b)) (decide_eq_false (by omega)) | exact congrArg (fun b => Ending.returned (.bool b)) (decide_eq_true (by omega)), (Below.refl _ _).alloc (Nat.le_refl _) _⟩
      rcases Int.lt_or_le (f) (0) with g0 | k8
      · obtain rfl : v = false := by
          cases v
          · rfl
          · exact absurd (HI.out.1 rfl) (by omega)
        go_enter Tryd.func42, Tryd.ntmps42
        go_wp2
        go_ret
        exact ⟨by first | rfl | exact congrArg (fun b => Ending.returned (.bool b)) (decide_eq_false (by omega)) | exact congrArg (fun b => Ending.returned (.bool b)) (decide_eq_true (by omega)), (Below.refl _ _).alloc (Nat.le_refl _) _⟩
      rcases Int.lt_or_le (549755813888) (f) with g0 | k9
      · obtain rfl : v = false := by
          cases v
          · rfl
          · exact absurd (HI.out.1 rfl) (by omega)
        go_enter Tryd.func42, Tryd.ntmps42
        go_wp2
        go_ret
        exact ⟨by first | rfl | exact congrArg (fun b => Ending.returned (.bool b)) (decide_eq_false (by omega)) | exact congrArg (fun b => Ending.returned (.bool b)) (decide_eq_true (by omega)), (Below.refl _ _).alloc (Nat.le_refl _) _⟩
      obtain rfl : v = true := HI.out.2 (by omega)
      go_enter Tryd.func42, Tryd.ntmps42
      go_wp2
      go_ret
      exact ⟨by first | rfl | exact congrArg (fun b => Ending.returned (.bool b)) (decide_eq_false (by omega)) | exact congrArg (fun b => Ending.returned (.bool b)) (decide_eq_true (by omega)), (Below.refl _ _).alloc (Nat.le_refl _) _⟩
    · rcases Int.lt_or_le (b) (0) with g0 | k0
      · obtain rfl : v = false := by
          cases v
          · rfl
          · exact absurd (HI.out.1 rfl) (by omega)
        go_enter Tryd.func42, Tryd.ntmps42
        go_wp2
        go_ret
        exact ⟨by first | rfl | exact congrArg (fun b => Ending.returned (.bool b)) (decide_eq_false (by omega)) | exact congrArg (fun b => Ending.returned (.bool b)) (decide_eq_true (by omega)), (Below.refl _ _).alloc (Nat.le_refl _) _⟩
      rcases Int.lt_or_le (b) (16) with k1 | g0
      rotate_left
      · obtain rfl : v = false := by
          cases v
          · rfl
          · exact absurd (HI.out.1 rfl) (by omega)
        go_enter Tryd.func42, Tryd.ntmps42
        go_wp2
        go_ret
        exact ⟨by first | rfl | exact congrArg (fun b => Ending.returned (.bool b)) (decide_eq_false (by omega)) | exact congrArg (fun b => Ending.returned (.bool b)) (decide_eq_true (by omega)), (Below.refl _ _).alloc (Nat.le_refl _) _⟩
      rcases Int.lt_or_le (c) (1) with g0 | k2
      · obtain rfl : v = false := by
          cases v
          · rfl
          · exact absurd (HI.out.1 rfl) (by omega)
        go_enter Tryd.func42, Tryd.ntmps42
        go_wp2
        go_ret
        exact ⟨by first | rfl | exact congrArg (fun b => Ending.returned (.bool b)) (decide_eq_false (by omega)) | exact congrArg (fun b => Ending.returned (.bool b)) (decide_eq_true (by omega)), (Below.refl _ _).alloc (Nat.le_refl _) _⟩
      rcases Int.lt_or_le (4294967295) (c) with g0 | k3
      · obtain rfl : v = false := by
          cases v
          · rfl
          · exact absurd (HI.out.1 rfl) (by omega)
        go_enter Tryd.func42, Tryd.ntmps42
        go_wp2
        go_ret
        exact ⟨by first | rfl | exact congrArg (fun b => Ending.returned (.bool b)) (decide_eq_false (by omega)) | exact congrArg (fun b => Ending.returned (.bool b)) (decide_eq_true (by omega)), (Below.refl _ _).alloc (Nat.le_refl _) _⟩
      rcases Int.lt_or_le (d) (1) with g0 | k4
      · obtain rfl : v = false := by
          cases v
          · rfl
          · exact absurd (HI.out.1 rfl) (by omega)
        go_enter Tryd.func42, Tryd.ntmps42
        go_wp2
        go_ret
        exact ⟨by first | rfl | exact congrArg (fun b => Ending.returned (.bool b)) (decide_eq_false (by omega)) | exact congrArg (fun b => Ending.returned (.bool b)) (decide_eq_true (by omega)), (Below.refl _ _).alloc (Nat.le_refl _) _⟩
      rcases Int.lt_or_le (281474976710655) (d) with g0 | k5
      · obtain rfl : v = false := by
          cases v
          · rfl
          · exact absurd (HI.out.1 rfl) (by omega)
        go_enter Tryd.func42, Tryd.ntmps42
        go_wp2
        go_ret
        exact ⟨by first | rfl | exact congrArg (fun b => Ending.returned (.bool b)) (decide_eq_false (by omega)) | exact congrArg (fun b => Ending.returned (.bool b)) (decide_eq_true (by omega)), (Below.refl _ _).alloc (Nat.le_refl _) _⟩
      rcases Int.lt_or_le (e) (0) with g0 | k6
      · obtain rfl : v = false := by
          cases v
          · rfl
          · exact absurd (HI.out.1 rfl) (by omega)
        go_enter Tryd.func42, Tryd.ntmps42
        go_wp2
        go_ret
        exact ⟨by first | rfl | exact congrArg (fun b => Ending.returned (.bool b)) (decide_eq_false (by omega)) | exact congrArg (fun b => Ending.returned (.bool b)) (decide_eq_true (by omega)), (Below.refl _ _).alloc (Nat.le_refl _) _⟩
      rcases Int.lt_or_le (d) (e) with g0 | k7
      · obtain rfl : v = false := by
          cases v
          · rfl
          · exact absurd (HI.out.1 rfl) (by omega)
        go_enter Tryd.func42, Tryd.ntmps42
        go_wp2
        go_ret
        exact ⟨by first | rfl | exact congrArg (fun b => Ending.returned (.bool b)) (decide_eq_false (by omega)) | exact congrArg (fun b => Ending.returned (.bool b)) (decide_eq_true (by omega)), (Below.refl _ _).alloc (Nat.le_refl _) _⟩
      rcases Int.lt_or_le (f) (0) with g0 | k8
      · obtain rfl : v = false := by
          cases v
          · rfl
          · exact absurd (HI.out.1 rfl) (by omega)
        go_enter Tryd.func42, Tryd.ntmps42
        go_wp2
        go_ret
        exact ⟨by first | rfl | exact congrArg (fun b => Ending.returned (.bool b)) (decide_eq_false (by omega)) | exact congrArg (fun b => Ending.returned (.bool b)) (decide_eq_true (by omega)), (Below.refl _ _).alloc (Nat.le_refl _) _⟩
      rcases Int.lt_or_le (549755813888) (f) with g0 | k9
      · obtain rfl : v = false := by
          cases v
          · rfl
          · exact absurd (HI.out.1 rfl) (by omega)
        go_enter Tryd.func42, Tryd.ntmps42
        go_wp2
        go_ret
        exact ⟨by first | rfl | exact congrArg (fun b => Ending.returned (.bool b)) (decide_eq_false (by omega)) | exact congrArg (fun b => Ending.returned (.bool b)) (decide_eq_true (by omega)), (Below.refl _ _).alloc (Nat.le_refl _) _⟩
      obtain rfl : v = true := HI.out.2 (by omega)
      go_enter Tryd.func42, Tryd.ntmps42
      go_wp2
      go_ret
      exact ⟨by first | rfl | exact congrArg (fun b => Ending.returned (.bool b)) (decide_eq_false (by omega)) | exact congrArg (fun b => Ending.returned (.bool b)) (decide_eq_true (by omega)), (Below.refl _ _).alloc (Nat.le_refl _) _⟩
  · obtain rfl : v = false := by
      cases v
      · rfl
      · exact absurd (HI.out.1 rfl) (by omega)
    have h2 : ¬ a = 1 := fun h => h1 (.inl h)
    have h3 : ¬ a = 2 := fun h => h1 (.inr h)
    clear h1
    go_enter Tryd.func42, Tryd.ntmps42
    go_wp2
    go_ret
    exact ⟨by first | rfl | exact congrArg (fun b => Ending.returned (.bool b)) (decide_eq_false (by omega)) | exact congrArg (fun b => Ending.returned (.bool b)) (decide_eq_true (by omega)), (Below.refl _ _).alloc (Nat.le_refl _) _⟩

end Go.Proofs.YthgpmnblkhehkaaDoor
