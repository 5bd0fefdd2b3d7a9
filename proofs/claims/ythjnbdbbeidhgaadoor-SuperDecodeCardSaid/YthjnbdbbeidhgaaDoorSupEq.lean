/- superblock.Equal and the reference's Eq. -/
import Derived.Test.YthjnbdbbeidhgaaDoorLayouts
import Derived.Deep.RegionWith
namespace Go.Proofs.YthjnbdbbeidhgaaDoor
open Go.RowKit

/-- A superblock. -/
structure Su where
  g : Int
  p : Int
  m : Int
  t : Int
  n : Int
  T : Ly
  H : Ly
  fs : List Ly
  deriving DecidableEq

set_option maxHeartbeats 4000000 in
theorem sequal_any (g p m t n a1 b1 c1 d1 a2 b2 c2 d2 g' p' m' t' n' a1' b1' c1' d1' a2' b2' c2' d2' : Int) (fs fs' : List Ly) (A A' : Option Addr) (k c k' c' B B' : Nat) (w : World) (hx : LAt w B A k fs) (hy : LAt w B' A' k' fs') (hk : k ≤ 9223372036854775807) (hk' : k' ≤ 9223372036854775807) (hB : B ≤ w.heap.size) (hB' : B' ≤ w.heap.size) (r : Bool) (hr : decide ((⟨g, p, m, t, n, ⟨a1, b1, c1, d1⟩, ⟨a2, b2, c2, d2⟩, fs⟩ : Su) = ⟨g', p', m', t', n', ⟨a1', b1', c1', d1'⟩, ⟨a2', b2', c2', d2'⟩, fs'⟩) = r) :
    Calls Tryd.prog 29 #[.agg #[.int .i64 g, .int .i64 p, .int .i64 m, .int .i64 t, .int .i64 n, .int .i64 a1, .int .i64 b1, .int .i64 c1, .int .i64 d1, .int .i64 a2, .int .i64 b2, .int .i64 c2, .int .i64 d2, .slice A k c], .agg #[.int .i64 g', .int .i64 p', .int .i64 m', .int .i64 t', .int .i64 n', .int .i64 a1', .int .i64 b1', .int .i64 c1', .int .i64 d1', .int .i64 a2', .int .i64 b2', .int .i64 c2', .int .i64 d2', .slice A' k' c']] w fun e w' => e = .returned (.bool r) ∧ Below w.heap.size w w' := by
  have HB0 : Hid (Below w.heap.size w ((w.alloc (.cells #[.int .i64 g, .int .i64 p, .int .i64 m, .int .i64 t, .int .i64 n, .int .i64 a1, .int .i64 b1, .int .i64 c1, .int .i64 d1, .int .i64 a2, .int .i64 b2, .int .i64 c2, .int .i64 d2, .slice A k c] 41)).alloc (.cells #[.int .i64 g', .int .i64 p', .int .i64 m', .int .i64 t', .int .i64 n', .int .i64 a1', .int .i64 b1', .int .i64 c1', .int .i64 d1', .int .i64 a2', .int .i64 b2', .int .i64 c2', .int .i64 d2', .slice A' k' c'] 41))) := ((Below.refl _ _).alloc (Nat.le_refl _) _).alloc (by simp) _
  have HX : Hid (∀ w', Below w.heap.size w w' → LAt w' w.heap.size A k fs) := fun w' hb => (hx.more hB).below hb
  have HY : Hid (∀ w', Below w.heap.size w w' → LAt w' w.heap.size A' k' fs') := fun w' hb => (hy.more hB').below hb
  have NE : ∀ (q : Prop), ((⟨g, p, m, t, n, ⟨a1, b1, c1, d1⟩, ⟨a2, b2, c2, d2⟩, fs⟩ : Su) = ⟨g', p', m', t', n', ⟨a1', b1', c1', d1'⟩, ⟨a2', b2', c2', d2'⟩, fs'⟩ → q) → ¬ q → r = false := fun q h hn => by rw [← hr]; exact decide_eq_false (fun e => hn (h e))
  have N0 : Hid (¬ g = g' → r = false) := NE _ (fun e => congrArg (Su.g) e)
  have N1 : Hid (¬ p = p' → r = false) := NE _ (fun e => congrArg (Su.p) e)
  have N2 : Hid (¬ m = m' → r = false) := NE _ (fun e => congrArg (Su.m) e)
  have N3 : Hid (¬ t = t' → r = false) := NE _ (fun e => congrArg (Su.t) e)
  have N4 : Hid (¬ n = n' → r = false) := NE _ (fun e => congrArg (Su.n) e)
  have N5 : Hid (¬ a1 = a1' → r = false) := NE _ (fun e => congrArg (fun s => s.T.a) e)
  have N6 : Hid (¬ b1 = b1' → r = false) := NE _ (fun e => congrArg (fun s => s.T.b) e)
  have N7 : Hid (¬ c1 = c1' → r = false) := NE _ (fun e => congrArg (fun s => s.T.c) e)
  have N8 : Hid (¬ d1 = d1' → r = false) := NE _ (fun e => congrArg (fun s => s.T.d) e)
  have N9 : Hid (¬ a2 = a2' → r = false) := NE _ (fun e => congrArg (fun s => s.H.a) e)
  have N10 : Hid (¬ b2 = b2' → r = false) := NE _ (fun e => congrArg (fun s => s.H.b) e)
  have N11 : Hid (¬ c2 = c2' → r = false) := NE _ (fun e => congrArg (fun s => s.H.c) e)
  have N12 : Hid (¬ d2 = d2' → r = false) := NE _ (fun e => congrArg (fun s => s.H.d) e)
  have HALL : Hid (g = g' ∧ p = p' ∧ m = m' ∧ t = t' ∧ n = n' ∧ a1 = a1' ∧ b1 = b1' ∧ c1 = c1' ∧ d1 = d1' ∧ a2 = a2' ∧ b2 = b2' ∧ c2 = c2' ∧ d2 = d2' → r = decide (fs = fs')) := fun h => by
    obtain ⟨rfl, rfl, rfl, rfl, rfl, rfl, rfl, rfl, rfl, rfl, rfl, rfl, rfl⟩ := h
    rw [← hr]; exact decide_eq_decide.2 ⟨fun e => congrArg Su.fs e, fun e => by rw [e]⟩
  have KL : Hid (fs.length = k ∧ fs'.length = k') := ⟨hx.1, hy.1⟩
  clear NE hr hx hy hB hB'
  by_cases e0 : g = g'
  rotate_left
  · obtain rfl : r = false := N0.out e0
    go_enter Tryd.func29, Tryd.ntmps29
    go_wp2
    go_ret
    exact ⟨rfl, HB0.out⟩
  by_cases e1 : p = p'
  rotate_left
  · obtain rfl : r = false := N1.out e1
    subst e0
    go_enter Tryd.func29, Tryd.ntmps29
    go_wp2
    go_ret
    exact ⟨rfl, HB0.out⟩
  by_cases e2 : m = m'
  rotate_left
  · obtain rfl : r = false := N2.out e2
    subst e0; subst e1
    go_enter Tryd.func29, Tryd.ntmps29
    go_wp2
    go_ret
    exact ⟨rfl, HB0.out⟩
  by_cases e3 : t = t'
  rotate_left
  · obtain rfl : r = false := N3.out e3
    subst e0; subst e1; subst e2
    go_enter Tryd.func29, Tryd.ntmps29
    go_wp2
    go_ret
    exact ⟨rfl, HB0.out⟩
  by_cases e4 : n = n'
  rotate_left
  · obtain rfl : r = false := N4.out e4
    subst e0; subst e1; subst e2; subst e3
    go_enter Tryd.func29, Tryd.ntmps29
    go_wp2
    go_ret
    exact ⟨rfl, HB0.out⟩
  by_cases e5 : a1 = a1'
  rotate_left
  · obtain rfl : r = false := N5.out e5
    subst e0; subst e1; subst e2; subst e3; subst e4
    go_enter Tryd.func29, Tryd.ntmps29
    go_wp2
    go_ret
    exact ⟨rfl, HB0.out⟩
  by_cases e6 : b1 = b1'
  rotate_left
  · obtain rfl : r = false := N6.out e6
    subst e0; subst e1; subst e2; subst e3; subst e4; subst e5
    go_enter Tryd.func29, Tryd.ntmps29
    go_wp2
    go_ret
    exact ⟨rfl, HB0.out⟩
  by_cases e7 : c1 = c1'
  rotate_left
  · obtain rfl : r = false := N7.out e7
    subst e0; subst e1; subst e2; subst e3; subst e4; subst e5; subst e6
    go_enter Tryd.func29, Tryd.ntmps29
    go_wp2
    go_ret
    exact ⟨rfl, HB0.out⟩
  by_cases e8 : d1 = d1'
  rotate_left
  · obtain rfl : r = false := N8.out e8
    subst e0; subst e1; subst e2; subst e3; subst e4; subst e5; subst e6; subst e7
    go_enter Tryd.func29, Tryd.ntmps29
    go_wp2
    go_ret
    exact ⟨rfl, HB0.out⟩
  by_cases e9 : a2 = a2'
  rotate_left
  · obtain rfl : r = false := N9.out e9
    subst e0; subst e1; subst e2; subst e3; subst e4; subst e5; subst e6; subst e7; subst e8
    go_enter Tryd.func29, Tryd.ntmps29
    go_wp2
    go_ret
    exact ⟨rfl, HB0.out⟩
  by_cases e10 : b2 = b2'
  rotate_left
  · obtain rfl : r = false := N10.out e10
    subst e0; subst e1; subst e2; subst e3; subst e4; subst e5; subst e6; subst e7; subst e8; subst e9
    go_enter Tryd.func29, Tryd.ntmps29
    go_wp2
    go_ret
    exact ⟨rfl, HB0.out⟩
  by_cases e11 : c2 = c2'
  rotate_left
  · obtain rfl : r = false := N11.out e11
    subst e0; subst e1; subst e2; subst e3; subst e4; subst e5; subst e6; subst e7; subst e8; subst e9; subst e10
    go_enter Tryd.func29, Tryd.ntmps29
    go_wp2
    go_ret
    exact ⟨rfl, HB0.out⟩
  by_cases e12 : d2 = d2'
  rotate_left
  · obtain rfl : r = false := N12.out e12
    subst e0; subst e1; subst e2; subst e3; subst e4; subst e5; subst e6; subst e7; subst e8; subst e9; subst e10; subst e11
    go_enter Tryd.func29, Tryd.ntmps29
    go_wp2
    go_ret
    exact ⟨rfl, HB0.out⟩
  obtain rfl := HALL.out ⟨e0, e1, e2, e3, e4, e5, e6, e7, e8, e9, e10, e11, e12⟩
  clear HALL N0 N1 N2 N3 N4 N5 N6 N7 N8 N9 N10 N11 N12
  subst e0; subst e1; subst e2; subst e3; subst e4; subst e5; subst e6; subst e7; subst e8; subst e9; subst e10; subst e11; subst e12
  clear KL
  go_enter Tryd.func29, Tryd.ntmps29
  go_wp2_with (go_at_call 51; refine (leq_any fs fs' A A' k k' c c' _ _ _ (HX.out _ (by first | exact HB0.out | exact HB0.out.drew)) (HY.out _ (by first | exact HB0.out | exact HB0.out.drew)) hk hk').mono ?_; rintro e w' ⟨rfl, q, rfl⟩)
  go_ret
  exact ⟨rfl, below_drewN HB0.out _⟩

set_option maxHeartbeats 4000000 in
theorem refSEq_any (g p m t n a1 b1 c1 d1 a2 b2 c2 d2 g' p' m' t' n' a1' b1' c1' d1' a2' b2' c2' d2' : Int) (fs fs' : List Ly) (A A' : Option Addr) (k c k' c' B B' : Nat) (w : World) (hx : LAt w B A k fs) (hy : LAt w B' A' k' fs') (hk : k ≤ 9223372036854775807) (hk' : k' ≤ 9223372036854775807) (hB : B ≤ w.heap.size) (hB' : B' ≤ w.heap.size) (r : Bool) (hr : decide ((⟨g, p, m, t, n, ⟨a1, b1, c1, d1⟩, ⟨a2, b2, c2, d2⟩, fs⟩ : Su) = ⟨g', p', m', t', n', ⟨a1', b1', c1', d1'⟩, ⟨a2', b2', c2', d2'⟩, fs'⟩) = r) :
    Calls Tryd.prog 24 #[.agg #[.int .i64 g, .int .i64 p, .int .i64 m, .int .i64 t, .int .i64 n, .int .i64 a1, .int .i64 b1, .int .i64 c1, .int .i64 d1, .int .i64 a2, .int .i64 b2, .int .i64 c2, .int .i64 d2, .slice A k c], .agg #[.int .i64 g', .int .i64 p', .int .i64 m', .int .i64 t', .int .i64 n', .int .i64 a1', .int .i64 b1', .int .i64 c1', .int .i64 d1', .int .i64 a2', .int .i64 b2', .int .i64 c2', .int .i64 d2', .slice A' k' c']] w fun e w' => e = .returned (.bool r) ∧ Below w.heap.size w w' := by
  have HB0 : Hid (Below w.heap.size w ((w.alloc (.cells #[.int .i64 g, .int .i64 p, .int .i64 m, .int .i64 t, .int .i64 n, .int .i64 a1, .int .i64 b1, .int .i64 c1, .int .i64 d1, .int .i64 a2, .int .i64 b2, .int .i64 c2, .int .i64 d2, .slice A k c] 41)).alloc (.cells #[.int .i64 g', .int .i64 p', .int .i64 m', .int .i64 t', .int .i64 n', .int .i64 a1', .int .i64 b1', .int .i64 c1', .int .i64 d1', .int .i64 a2', .int .i64 b2', .int .i64 c2', .int .i64 d2', .slice A' k' c'] 41))) := ((Below.refl _ _).alloc (Nat.le_refl _) _).alloc (by simp) _
  have HX : Hid (∀ w', Below w.heap.size w w' → LAt w' w.heap.size A k fs) := fun w' hb => (hx.more hB).below hb
  have HY : Hid (∀ w', Below w.heap.size w w' → LAt w' w.heap.size A' k' fs') := fun w' hb => (hy.more hB').below hb
  have NE : ∀ (q : Prop), ((⟨g, p, m, t, n, ⟨a1, b1, c1, d1⟩, ⟨a2, b2, c2, d2⟩, fs⟩ : Su) = ⟨g', p', m', t', n', ⟨a1', b1', c1', d1'⟩, ⟨a2', b2', c2', d2'⟩, fs'⟩ → q) → ¬ q → r = false := fun q h hn => by rw [← hr]; exact decide_eq_false (fun e => hn (h e))
  have N0 : Hid (¬ g = g' → r = false) := NE _ (fun e => congrArg (Su.g) e)
  have N1 : Hid (¬ p = p' → r = false) := NE _ (fun e => congrArg (Su.p) e)
  have N2 : Hid (¬ m = m' → r = false) := NE _ (fun e => congrArg (Su.m) e)
  have N3 : Hid (¬ t = t' → r = false) := NE _ (fun e => congrArg (Su.t) e)
  have N4 : Hid (¬ n = n' → r = false) := NE _ (fun e => congrArg (Su.n) e)
  have N5 : Hid (¬ a1 = a1' → r = false) := NE _ (fun e => congrArg (fun s => s.T.a) e)
  have N6 : Hid (¬ b1 = b1' → r = false) := NE _ (fun e => congrArg (fun s => s.T.b) e)
  have N7 : Hid (¬ c1 = c1' → r = false) := NE _ (fun e => congrArg (fun s => s.T.c) e)
  have N8 : Hid (¬ d1 = d1' → r = false) := NE _ (fun e => congrArg (fun s => s.T.d) e)
  have N9 : Hid (¬ a2 = a2' → r = false) := NE _ (fun e => congrArg (fun s => s.H.a) e)
  have N10 : Hid (¬ b2 = b2' → r = false) := NE _ (fun e => congrArg (fun s => s.H.b) e)
  have N11 : Hid (¬ c2 = c2' → r = false) := NE _ (fun e => congrArg (fun s => s.H.c) e)
  have N12 : Hid (¬ d2 = d2' → r = false) := NE _ (fun e => congrArg (fun s => s.H.d) e)
  have HALL : Hid (g = g' ∧ p = p' ∧ m = m' ∧ t = t' ∧ n = n' ∧ a1 = a1' ∧ b1 = b1' ∧ c1 = c1' ∧ d1 = d1' ∧ a2 = a2' ∧ b2 = b2' ∧ c2 = c2' ∧ d2 = d2' → r = decide (fs = fs')) := fun h => by
    obtain ⟨rfl, rfl, rfl, rfl, rfl, rfl, rfl, rfl, rfl, rfl, rfl, rfl, rfl⟩ := h
    rw [← hr]; exact decide_eq_decide.2 ⟨fun e => congrArg Su.fs e, fun e => by rw [e]⟩
  have KL : Hid (fs.length = k ∧ fs'.length = k') := ⟨hx.1, hy.1⟩
  clear NE hr hx hy hB hB'
  by_cases e0 : g = g'
  rotate_left
  · obtain rfl : r = false := N0.out e0
    go_enter Tryd.func24, Tryd.ntmps24
    go_wp2
    go_ret
    exact ⟨rfl, HB0.out⟩
  by_cases e1 : p = p'
  rotate_left
  · obtain rfl : r = false := N1.out e1
    subst e0
    go_enter Tryd.func24, Tryd.ntmps24
    go_wp2
    go_ret
    exact ⟨rfl, HB0.out⟩
  by_cases e2 : m = m'
  rotate_left
  · obtain rfl : r = false := N2.out e2
    subst e0; subst e1
    go_enter Tryd.func24, Tryd.ntmps24
    go_wp2
    go_ret
    exact ⟨rfl, HB0.out⟩
  by_cases e3 : t = t'
  rotate_left
  · obtain rfl : r = false := N3.out e3
    subst e0; subst e1; subst e2
    go_enter Tryd.func24, Tryd.ntmps24
    go_wp2
    go_ret
    exact ⟨rfl, HB0.out⟩
  by_cases e4 : n = n'
  rotate_left
  · obtain rfl : r = false := N4.out e4
    subst e0; subst e1; subst e2; subst e3
    go_enter Tryd.func24, Tryd.ntmps24
    go_wp2
    go_ret
    exact ⟨rfl, HB0.out⟩
  by_cases e5 : a1 = a1'
  rotate_left
  · obtain rfl : r = false := N5.out e5
    subst e0; subst e1; subst e2; subst e3; subst e4
    go_enter Tryd.func24, Tryd.ntmps24
    go_wp2
    go_ret
    exact ⟨rfl, HB0.out⟩
  by_cases e6 : b1 = b1'
  rotate_left
  · obtain rfl : r = false := N6.out e6
    subst e0; subst e1; subst e2; subst e3; subst e4; subst e5
    go_enter Tryd.func24, Tryd.ntmps24
    go_wp2
    go_ret
    exact ⟨rfl, HB0.out⟩
  by_cases e7 : c1 = c1'
  rotate_left
  · obtain rfl : r = false := N7.out e7
    subst e0; subst e1; subst e2; subst e3; subst e4; subst e5; subst e6
    go_enter Tryd.func24, Tryd.ntmps24
    go_wp2
    go_ret
    exact ⟨rfl, HB0.out⟩
  by_cases e8 : d1 = d1'
  rotate_left
  · obtain rfl : r = false := N8.out e8
    subst e0; subst e1; subst e2; subst e3; subst e4; subst e5; subst e6; subst e7
    go_enter Tryd.func24, Tryd.ntmps24
    go_wp2
    go_ret
    exact ⟨rfl, HB0.out⟩
  by_cases e9 : a2 = a2'
  rotate_left
  · obtain rfl : r = false := N9.out e9
    subst e0; subst e1; subst e2; subst e3; subst e4; subst e5; subst e6; subst e7; subst e8
    go_enter Tryd.func24, Tryd.ntmps24
    go_wp2
    go_ret
    exact ⟨rfl, HB0.out⟩
  by_cases e10 : b2 = b2'
  rotate_left
  · obtain rfl : r = false := N10.out e10
    subst e0; subst e1; subst e2; subst e3; subst e4; subst e5; subst e6; subst e7; subst e8; subst e9
    go_enter Tryd.func24, Tryd.ntmps24
    go_wp2
    go_ret
    exact ⟨rfl, HB0.out⟩
  by_cases e11 : c2 = c2'
  rotate_left
  · obtain rfl : r = false := N11.out e11
    subst e0; subst e1; subst e2; subst e3; subst e4; subst e5; subst e6; subst e7; subst e8; subst e9; subst e10
    go_enter Tryd.func24, Tryd.ntmps24
    go_wp2
    go_ret
    exact ⟨rfl, HB0.out⟩
  by_cases e12 : d2 = d2'
  rotate_left
  · obtain rfl : r = false := N12.out e12
    subst e0; subst e1; subst e2; subst e3; subst e4; subst e5; subst e6; subst e7; subst e8; subst e9; subst e10; subst e11
    go_enter Tryd.func24, Tryd.ntmps24
    go_wp2
    go_ret
    exact ⟨rfl, HB0.out⟩
  obtain rfl := HALL.out ⟨e0, e1, e2, e3, e4, e5, e6, e7, e8, e9, e10, e11, e12⟩
  clear HALL N0 N1 N2 N3 N4 N5 N6 N7 N8 N9 N10 N11 N12
  subst e0; subst e1; subst e2; subst e3; subst e4; subst e5; subst e6; subst e7; subst e8; subst e9; subst e10; subst e11; subst e12
  by_cases hl : k = k'
  · subst hl
    have HX7 : Hid (∀ q, (((w.alloc (.cells #[.int .i64 g, .int .i64 p, .int .i64 m, .int .i64 t, .int .i64 n, .int .i64 a1, .int .i64 b1, .int .i64 c1, .int .i64 d1, .int .i64 a2, .int .i64 b2, .int .i64 c2, .int .i64 d2, .slice A k c] 41)).alloc (.cells #[.int .i64 g, .int .i64 p, .int .i64 m, .int .i64 t, .int .i64 n, .int .i64 a1, .int .i64 b1, .int .i64 c1, .int .i64 d1, .int .i64 a2, .int .i64 b2, .int .i64 c2, .int .i64 d2, .slice A' k c'] 41)).drewN q).cell? ⟨w.heap.size, 13, none⟩ = some (.slice A k c)) := fun q => (cell_of_row _ _ _ _ _ _ ((Below.heap_alloc _ _ _ (by simp)).trans (heap_alloc_new w _)))
    have HY7 : Hid (∀ q, (((w.alloc (.cells #[.int .i64 g, .int .i64 p, .int .i64 m, .int .i64 t, .int .i64 n, .int .i64 a1, .int .i64 b1, .int .i64 c1, .int .i64 d1, .int .i64 a2, .int .i64 b2, .int .i64 c2, .int .i64 d2, .slice A k c] 41)).alloc (.cells #[.int .i64 g, .int .i64 p, .int .i64 m, .int .i64 t, .int .i64 n, .int .i64 a1, .int .i64 b1, .int .i64 c1, .int .i64 d1, .int .i64 a2, .int .i64 b2, .int .i64 c2, .int .i64 d2, .slice A' k c'] 41)).drewN q).cell? ⟨w.heap.size + 1, 13, none⟩ = some (.slice A' k c')) := fun q => (cell_of_row _ _ _ _ _ _ (by have := heap_alloc_new (w.alloc (.cells #[.int .i64 g, .int .i64 p, .int .i64 m, .int .i64 t, .int .i64 n, .int .i64 a1, .int .i64 b1, .int .i64 c1, .int .i64 d1, .int .i64 a2, .int .i64 b2, .int .i64 c2, .int .i64 d2, .slice A k c] 41)) (.cells #[.int .i64 g, .int .i64 p, .int .i64 m, .int .i64 t, .int .i64 n, .int .i64 a1, .int .i64 b1, .int .i64 c1, .int .i64 d1, .int .i64 a2, .int .i64 b2, .int .i64 c2, .int .i64 d2, .slice A' k c'] 41); rwa [World.size_alloc] at this))
    go_enter Tryd.func24, Tryd.ntmps24
    go_wp2
    go_loopw [65] (fun i wr => ∃ j : Nat, j ≤ k ∧ i = .int .i64 j ∧ Hid (fs.take j = fs'.take j) ∧ ∃ q, wr = ((w.alloc (.cells #[.int .i64 g, .int .i64 p, .int .i64 m, .int .i64 t, .int .i64 n, .int .i64 a1, .int .i64 b1, .int .i64 c1, .int .i64 d1, .int .i64 a2, .int .i64 b2, .int .i64 c2, .int .i64 d2, .slice A k c] 41)).alloc (.cells #[.int .i64 g, .int .i64 p, .int .i64 m, .int .i64 t, .int .i64 n, .int .i64 a1, .int .i64 b1, .int .i64 c1, .int .i64 d1, .int .i64 a2, .int .i64 b2, .int .i64 c2, .int .i64 d2, .slice A' k c'] 41)).drewN q) (fun i _ => k - (intOf i).toNat)
    case atStart => exact ⟨0, Nat.zero_le _, rfl, by simp [Hid], 0, rfl⟩
    case round =>
      obtain ⟨j, hj, rfl, ht, q, rfl⟩ := hrel
      have HBq : Hid (Below w.heap.size w (((w.alloc (.cells #[.int .i64 g, .int .i64 p, .int .i64 m, .int .i64 t, .int .i64 n, .int .i64 a1, .int .i64 b1, .int .i64 c1, .int .i64 d1, .int .i64 a2, .int .i64 b2, .int .i64 c2, .int .i64 d2, .slice A k c] 41)).alloc (.cells #[.int .i64 g, .int .i64 p, .int .i64 m, .int .i64 t, .int .i64 n, .int .i64 a1, .int .i64 b1, .int .i64 c1, .int .i64 d1, .int .i64 a2, .int .i64 b2, .int .i64 c2, .int .i64 d2, .slice A' k c'] 41)).drewN q)) := below_drewN HB0.out q
      have hx7 := HX7.out q
      have hy7 := HY7.out q
      obtain ⟨wr, hwr⟩ : ∃ x, ((w.alloc (.cells #[.int .i64 g, .int .i64 p, .int .i64 m, .int .i64 t, .int .i64 n, .int .i64 a1, .int .i64 b1, .int .i64 c1, .int .i64 d1, .int .i64 a2, .int .i64 b2, .int .i64 c2, .int .i64 d2, .slice A k c] 41)).alloc (.cells #[.int .i64 g, .int .i64 p, .int .i64 m, .int .i64 t, .int .i64 n, .int .i64 a1, .int .i64 b1, .int .i64 c1, .int .i64 d1, .int .i64 a2, .int .i64 b2, .int .i64 c2, .int .i64 d2, .slice A' k c'] 41)).drewN q = x := ⟨_, rfl⟩
      rw [hwr] at HBq hx7 hy7 ⊢
      have HWR := Lib.hid hwr
      clear hwr
      by_cases hlt : j < k
      · obtain ⟨⟨xa, xb, xc, xd⟩, ad, hx1, rfl, _, hxa, hxb, hxc, hxd⟩ := (HX.out _ HBq.out).get hlt
        obtain ⟨⟨ya, yb, yc, yd⟩, ad', hy1, rfl, _, hya, hyb, hyc, hyd⟩ := (HY.out _ HBq.out).get hlt
        have H1 := Lib.hid hx1
        have H2 := Lib.hid hy1
        have hk1 : (0 : Int) ≤ (j : Int) := by omega
        have hk2 : (j : Int) < k := by omega
        clear hx1 hy1
        by_cases hxy : xa = ya ∧ xb = yb ∧ xc = yc ∧ xd = yd
        · obtain ⟨rfl, rfl, rfl, rfl⟩ := hxy
          go_wp2
          go_quiet (fail)
          go_wp2
          go_roundw
          case rel => exact ⟨j + 1, by omega, by go_num, take_more ht.out H1.out H2.out, _, by rw [← HWR.out, World.drewN_drewN]⟩
          case measure => simp [intOf]; omega
        · have HF : Hid (decide (fs = fs') = false) := by
            refine decide_eq_false fun h => hxy ?_
            have h1 := H1.out; have h2 := H2.out
            rw [h, h2] at h1
            injection h1 with h1
            injection h1 with e1 e2 e3 e4
            exact ⟨e1.symm, e2.symm, e3.symm, e4.symm⟩
          rcases ne_first hxy with hne | ⟨rfl, hne⟩ | ⟨rfl, rfl, hne⟩ | ⟨rfl, rfl, rfl, hne⟩
          all_goals
            clear hxy
            go_wp2
            go_quiet (fail)
            go_wp2
            go_ret
            exact ⟨by rw [HF.out]; rfl, below_drewN HBq.out _⟩
      · have hkn : j = k := by omega
        subst hkn
        have HF : Hid (decide (fs = fs') = true) := by
          refine decide_eq_true ?_
          have := ht.out
          rw [List.take_of_length_le (by rw [KL.out.1]; exact Nat.le_refl _), List.take_of_length_le (by rw [KL.out.2]; exact Nat.le_refl _)] at this
          exact this
        go_wp2
        go_ret
        exact ⟨by rw [HF.out]; rfl, HBq.out⟩
  · have HF : Hid (decide (fs = fs') = false) := decide_eq_false fun h => hl (by rw [← KL.out.1, ← KL.out.2, h])
    have hne : ((k : Int) != (k' : Int)) = true := by simp only [bne_iff_ne, ne_eq]; omega
    clear hl
    go_enter Tryd.func24, Tryd.ntmps24
    go_wp2
    go_ret
    exact ⟨by rw [HF.out]; rfl, HB0.out⟩
end Go.Proofs.YthjnbdbbeidhgaaDoor
