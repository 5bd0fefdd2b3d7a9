/- The walk of the law HeaderOther. -/
import Derived.Test.YtepbchaeeldjmaaDoorHeaderLaw
import Derived.Deep.RegionHeld3
namespace Go.Proofs.YtepbchaeeldjmaaDoor
open Go.RowKit

theorem other_pre0 (a b c d e f a' b' c' d' e' f' : Int) (w : World) (o : Obj) : Below w.heap.size w (((w.alloc o).alloc (.cells #[.int .i64 a, .int .i64 b, .int .i64 c, .int .i64 d, .int .i64 e, .int .i64 f] 41)).alloc (.cells #[.int .i64 a', .int .i64 b', .int .i64 c', .int .i64 d', .int .i64 e', .int .i64 f'] 41)).drew ∧ Box6 (((w.alloc o).alloc (.cells #[.int .i64 a, .int .i64 b, .int .i64 c, .int .i64 d, .int .i64 e, .int .i64 f] 41)).alloc (.cells #[.int .i64 a', .int .i64 b', .int .i64 c', .int .i64 d', .int .i64 e', .int .i64 f'] 41)).drew (w.heap.size + 1) a b c d e f ∧ Box6 (((w.alloc o).alloc (.cells #[.int .i64 a, .int .i64 b, .int .i64 c, .int .i64 d, .int .i64 e, .int .i64 f] 41)).alloc (.cells #[.int .i64 a', .int .i64 b', .int .i64 c', .int .i64 d', .int .i64 e', .int .i64 f'] 41)).drew (w.heap.size + 1 + 1) a' b' c' d' e' f' := by
  refine ⟨Below.drew (Below.alloc (Below.alloc (Below.alloc (Below.refl _ _) (Nat.le_refl _) _) (by simp) _) (by simp; omega) _), ?_, ?_⟩
  · have h1 := Box6.new (w.alloc o) 41 a b c d e f
    rw [World.size_alloc] at h1
    refine h1.below (B := w.heap.size + 1 + 1) ?_ (by omega)
    exact Below.drew (Below.alloc (Below.refl _ _) (by simp) _)
  · have h1 := Box6.new ((w.alloc o).alloc (.cells #[.int .i64 a, .int .i64 b, .int .i64 c, .int .i64 d, .int .i64 e, .int .i64 f] 41)) 41 a' b' c' d' e' f'
    rw [World.size_alloc, World.size_alloc] at h1
    exact h1
theorem other_pre1 (a b c d e f a' b' c' d' e' f' : Int) (w : World) (o : Obj) : Below w.heap.size w (((w.alloc o).alloc (.cells #[.int .i64 a', .int .i64 b', .int .i64 c', .int .i64 d', .int .i64 e', .int .i64 f'] 41)).alloc (.cells #[.int .i64 a, .int .i64 b, .int .i64 c, .int .i64 d, .int .i64 e, .int .i64 f] 41)).drew ∧ Box6 (((w.alloc o).alloc (.cells #[.int .i64 a', .int .i64 b', .int .i64 c', .int .i64 d', .int .i64 e', .int .i64 f'] 41)).alloc (.cells #[.int .i64 a, .int .i64 b, .int .i64 c, .int .i64 d, .int .i64 e, .int .i64 f] 41)).drew (w.heap.size + 1 + 1) a b c d e f ∧ Box6 (((w.alloc o).alloc (.cells #[.int .i64 a', .int .i64 b', .int .i64 c', .int .i64 d', .int .i64 e', .int .i64 f'] 41)).alloc (.cells #[.int .i64 a, .int .i64 b, .int .i64 c, .int .i64 d, .int .i64 e, .int .i64 f] 41)).drew (w.heap.size + 1) a' b' c' d' e' f' := by
  refine ⟨Below.drew (Below.alloc (Below.alloc (Below.alloc (Below.refl _ _) (Nat.le_refl _) _) (by simp) _) (by simp; omega) _), ?_, ?_⟩
  · have h1 := Box6.new ((w.alloc o).alloc (.cells #[.int .i64 a', .int .i64 b', .int .i64 c', .int .i64 d', .int .i64 e', .int .i64 f'] 41)) 41 a b c d e f
    rw [World.size_alloc, World.size_alloc] at h1
    exact h1
  · have h1 := Box6.new (w.alloc o) 41 a' b' c' d' e' f'
    rw [World.size_alloc] at h1
    refine h1.below (B := w.heap.size + 1 + 1) ?_ (by omega)
    exact Below.drew (Below.alloc (Below.refl _ _) (by simp) _)

set_option maxHeartbeats 400000 in
theorem hdr_ne (a b c d e f a' b' c' d' e' f' : Int) (h : ¬ (a = a' ∧ b = b' ∧ c = c' ∧ d = d' ∧ e = e' ∧ f = f')) (w : World) :
    (Op.equalIn 10000 41 (.agg #[.int .i64 a, .int .i64 b, .int .i64 c, .int .i64 d, .int .i64 e, .int .i64 f]) (.agg #[.int .i64 a', .int .i64 b', .int .i64 c', .int .i64 d', .int .i64 e', .int .i64 f'])).run Tryd.prog w = .ok false w := by
  by_cases e0 : a = a'
  · by_cases e1 : b = b'
    · by_cases e2 : c = c'
      · by_cases e3 : d = d'
        · by_cases e4 : e = e'
          · by_cases e5 : f = f'
            · exact absurd ⟨e0, e1, e2, e3, e4, e5⟩ h
            · subst e0 e1 e2 e3 e4; go_simp
          · subst e0 e1 e2 e3; go_simp
        · subst e0 e1 e2; go_simp
      · subst e0 e1; go_simp
    · subst e0; go_simp
  · go_simp

end Go.Proofs.YtepbchaeeldjmaaDoor
