/- Short of a record. -/
import Derived.Test.YtecmopfaeopmdaaDoorVec
import Derived.Test.YtecmopfaeopmdaaDoorFormRef
import Derived.Lib.SlBytesConst
namespace Go.Proofs.YtecmopfaeopmdaaDoor
open Go.RowKit

set_option maxHeartbeats 4000000 in
theorem short_any (ki ex : Int) (Ak Av : Option Addr) (nk ck nv cv mk mv : Nat) (hk : nk ≤ ck) (hv : nv ≤ cv) (hck : ck ≤ 9223372036854775807) (hcv : cv ≤ 9223372036854775807) (hmk : (nk ≤ 260 ∧ mk = nk) ∨ (260 < nk ∧ mk = 260)) (hmv : (nv ≤ 200 ∧ mv = nv) ∨ (200 < nv ∧ mv = 200)) (w : World) :
    Calls Tryd.prog 17 #[.agg #[.int .i64 ki, .slice Ak nk ck, .slice Av nv cv, .int .i64 ex]] w fun e w' => e = .returned (.agg #[.int .i64 ki, .slice Ak mk ck, .slice Av mv cv, .int .i64 ex]) ∧ Below w.heap.size w w' := by
  rcases hmk with ⟨h1, rfl⟩ | ⟨h1, rfl⟩
  all_goals rcases hmv with ⟨h2, rfl⟩ | ⟨h2, rfl⟩
  · have h1' : (mk : Int) ≤ 260 := by omega
    have h2' : (mv : Int) ≤ 200 := by omega
    have h3' : (mk : Int) ≤ (ck : Int) := by omega
    have h4' : (mv : Int) ≤ (cv : Int) := by omega
    go_enter Tryd.func17, Tryd.ntmps17
    go_wp2_with fail
    go_region
    all_goals
      go_wp2
      refine bodyPost_ret (v := .agg #[.int .i64 ki, .slice Ak mk ck, .slice Av mv cv, .int .i64 ex]) (by simp [results, Tryd.results17, go_sem, *]) rfl ?_
      exact ⟨rfl, by (repeat (first | with_reducible exact Below.refl _ _ | with_reducible refine Below.setCell ?_ (by first | (simp; done) | (simp; omega) | omega) _ | with_reducible refine Below.alloc ?_ (by first | (simp; done) | (simp; omega) | omega) _ | with_reducible refine Below.drew ?_))⟩
  · have h1' : (mk : Int) ≤ 260 := by omega
    have h2' : (200 : Int) < (nv : Int) := by omega
    have h3' : (mk : Int) ≤ (ck : Int) := by omega
    have h4' : (200 : Int) ≤ (cv : Int) := by omega
    go_enter Tryd.func17, Tryd.ntmps17
    go_wp2_with fail
    go_region
    all_goals
      go_wp2
      refine bodyPost_ret (v := .agg #[.int .i64 ki, .slice Ak mk ck, .slice Av 200 cv, .int .i64 ex]) (by simp [results, Tryd.results17, go_sem, *]) rfl ?_
      exact ⟨rfl, by (repeat (first | with_reducible exact Below.refl _ _ | with_reducible refine Below.setCell ?_ (by first | (simp; done) | (simp; omega) | omega) _ | with_reducible refine Below.alloc ?_ (by first | (simp; done) | (simp; omega) | omega) _ | with_reducible refine Below.drew ?_))⟩
  · have h1' : (260 : Int) < (nk : Int) := by omega
    have h2' : (mv : Int) ≤ 200 := by omega
    have h3' : (260 : Int) ≤ (ck : Int) := by omega
    have h4' : (mv : Int) ≤ (cv : Int) := by omega
    go_enter Tryd.func17, Tryd.ntmps17
    go_wp2_with fail
    go_region
    all_goals
      go_wp2
      refine bodyPost_ret (v := .agg #[.int .i64 ki, .slice Ak 260 ck, .slice Av mv cv, .int .i64 ex]) (by simp [results, Tryd.results17, go_sem, *]) rfl ?_
      exact ⟨rfl, by (repeat (first | with_reducible exact Below.refl _ _ | with_reducible refine Below.setCell ?_ (by first | (simp; done) | (simp; omega) | omega) _ | with_reducible refine Below.alloc ?_ (by first | (simp; done) | (simp; omega) | omega) _ | with_reducible refine Below.drew ?_))⟩
  · have h1' : (260 : Int) < (nk : Int) := by omega
    have h2' : (200 : Int) < (nv : Int) := by omega
    have h3' : (260 : Int) ≤ (ck : Int) := by omega
    have h4' : (200 : Int) ≤ (cv : Int) := by omega
    go_enter Tryd.func17, Tryd.ntmps17
    go_wp2_with fail
    go_region
    all_goals
      go_wp2
      refine bodyPost_ret (v := .agg #[.int .i64 ki, .slice Ak 260 ck, .slice Av 200 cv, .int .i64 ex]) (by simp [results, Tryd.results17, go_sem, *]) rfl ?_
      exact ⟨rfl, by (repeat (first | with_reducible exact Below.refl _ _ | with_reducible refine Below.setCell ?_ (by first | (simp; done) | (simp; omega) | omega) _ | with_reducible refine Below.alloc ?_ (by first | (simp; done) | (simp; omega) | omega) _ | with_reducible refine Below.drew ?_))⟩
end Go.Proofs.YtecmopfaeopmdaaDoor
