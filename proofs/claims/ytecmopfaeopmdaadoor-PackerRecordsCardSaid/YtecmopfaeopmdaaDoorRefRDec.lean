/- The walk of the reference's Decode of records: a place that may not be, or too few bytes. -/
import Derived.Test.YtecmopfaeopmdaaDoorRefREnc
import Derived.Test.YtecmopfaeopmdaaDoorRecEq
import Derived.Test.YtecmopfaeopmdaaDoorRecCheckRef
namespace Go.Proofs.YtecmopfaeopmdaaDoor
open Go.RowKit

set_option maxHeartbeats 1000000 in
theorem refRdec_bad (v s o : Int) (bs : List UInt8) (A : Option Addr) (n cap B : Nat) (w : World) (hb : Byt w B A n bs) (hn : n ≤ cap) (hcap : cap ≤ 9223372036854775807) (hB : B ≤ w.heap.size) (hs : s ≤ 9223372036854775807) (r : Option (Rcd × Nat)) (hr : rdec v s o bs = r) (hbad : (¬ v = 1 ∧ ¬ v = 2) ∨ s < 0 ∨ o < 0 ∨ 2147483647 < o ∨ n < 16) :
    Calls Tryd.prog 27 #[.int .i64 v, .int .i64 s, .int .i64 o, .slice A n cap] w (RDecRes r w) := by
  have _u := And.intro hn (And.intro hcap (And.intro hs hB))
  clear _u
  have hbl := hb.len
  obtain rfl : r = none := by
    rw [← hr]
    by_cases h : n < 16
    · unfold rdec; simp only; rw [if_neg (by rintro ⟨h, _⟩; omega)]
    · exact rdec_place (by omega)
  have HB0 : Hid (Below w.heap.size w (w.alloc (.cells #[.int .i64 0, .slice none 0 0, .slice none 0 0, .int .i64 0] 33))) := (Below.refl _ _).alloc (Nat.le_refl _) _
  clear hr hb hB hbl
  by_cases h1 : ¬ v = 1 ∧ ¬ v = 2
  · obtain ⟨h1, h2⟩ := h1
    go_enter Tryd.func27, Tryd.ntmps27
    go_wp2
    refine bodyPost_ret (v := .tuple #[.agg #[.int .i64 0, .slice none 0 0, .slice none 0 0, .int .i64 0], .int .i64 0, .bool false]) (by simp [results, Tryd.results27, go_sem, *]) rfl ?_
    exact ⟨rfl, (by repeat (first | with_reducible exact HB0.out | with_reducible refine Below.setCell ?_ (by first | (simp; done) | (simp; omega) | omega) _ | with_reducible refine Below.drew ?_))⟩
  have hv : v = 1 ∨ v = 2 := by omega
  rcases hv with rfl | rfl
  all_goals
    by_cases h2 : s < 0
    · go_enter Tryd.func27, Tryd.ntmps27
      go_wp2
      refine bodyPost_ret (v := .tuple #[.agg #[.int .i64 0, .slice none 0 0, .slice none 0 0, .int .i64 0], .int .i64 0, .bool false]) (by simp [results, Tryd.results27, go_sem, *]) rfl ?_
      exact ⟨rfl, (by repeat (first | with_reducible exact HB0.out | with_reducible refine Below.setCell ?_ (by first | (simp; done) | (simp; omega) | omega) _ | with_reducible refine Below.drew ?_))⟩
    by_cases h3 : o < 0
    · go_enter Tryd.func27, Tryd.ntmps27
      go_wp2
      refine bodyPost_ret (v := .tuple #[.agg #[.int .i64 0, .slice none 0 0, .slice none 0 0, .int .i64 0], .int .i64 0, .bool false]) (by simp [results, Tryd.results27, go_sem, *]) rfl ?_
      exact ⟨rfl, (by repeat (first | with_reducible exact HB0.out | with_reducible refine Below.setCell ?_ (by first | (simp; done) | (simp; omega) | omega) _ | with_reducible refine Below.drew ?_))⟩
    by_cases h4 : 2147483647 < o
    · go_enter Tryd.func27, Tryd.ntmps27
      go_wp2
      refine bodyPost_ret (v := .tuple #[.agg #[.int .i64 0, .slice none 0 0, .slice none 0 0, .int .i64 0], .int .i64 0, .bool false]) (by simp [results, Tryd.results27, go_sem, *]) rfl ?_
      exact ⟨rfl, (by repeat (first | with_reducible exact HB0.out | with_reducible refine Below.setCell ?_ (by first | (simp; done) | (simp; omega) | omega) _ | with_reducible refine Below.drew ?_))⟩
    have h5 : (n : Int) < 16 := by omega
    go_enter Tryd.func27, Tryd.ntmps27
    go_wp2
    refine bodyPost_ret (v := .tuple #[.agg #[.int .i64 0, .slice none 0 0, .slice none 0 0, .int .i64 0], .int .i64 0, .bool false]) (by simp [results, Tryd.results27, go_sem, *]) rfl ?_
    exact ⟨rfl, (by repeat (first | with_reducible exact HB0.out | with_reducible refine Below.setCell ?_ (by first | (simp; done) | (simp; omega) | omega) _ | with_reducible refine Below.drew ?_))⟩
end Go.Proofs.YtecmopfaeopmdaaDoor
