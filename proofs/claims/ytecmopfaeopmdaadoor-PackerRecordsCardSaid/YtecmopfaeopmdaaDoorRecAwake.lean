/- The walks of the records' Awake and Short. -/
import Derived.Test.YtecmopfaeopmdaaDoorRecDecAll
import Derived.Test.YtecmopfaeopmdaaDoorAppKeep
import Derived.Lib.SlBytesConst
namespace Go.Proofs.YtecmopfaeopmdaaDoor
open Go.RowKit

/-- A record's block, written anew. -/
theorem box_set {v : World} {g : Nat} {ki0 ex0 ki ex : Int} {Ak0 Av0 Ak Av : Option Addr} {nk0 ck0 nv0 cv0 nk ck nv cv : Nat} (h : BoxR v g ki0 Ak0 nk0 ck0 Av0 nv0 cv0 ex0) :
    ∀ v', v' = (((v.setCell ⟨g, 0, none⟩ (.int .i64 ki)).setCell ⟨g, 1, none⟩ (.slice Ak nk ck)).setCell ⟨g, 2, none⟩ (.slice Av nv cv)).setCell ⟨g, 3, none⟩ (.int .i64 ex) → BoxR v' g ki Ak nk ck Av nv cv ex ∧ v'.heap.size = v.heap.size ∧ (∀ B, B ≤ g → Below B v v') := by
  rintro _ rfl
  have ot : ∀ (u : World) (i j : Nat) (x : Value), i ≠ j → (u.setCell ⟨g, i, none⟩ x).cell? ⟨g, j, none⟩ = u.cell? ⟨g, j, none⟩ := fun u i j x hij => World.cell?_setCell_other _ _ _ _ (fun e => by injection e; omega)
  refine ⟨⟨?_, ?_, ?_, ?_⟩, by simp [World.setCell], fun B hB => Below.setCell (Below.setCell (Below.setCell (Below.setCell (Below.refl _ _) hB _) hB _) hB _) hB _⟩
  · rw [ot _ 3 0 _ (by decide), ot _ 2 0 _ (by decide), ot _ 1 0 _ (by decide)]; exact World.cell?_setCell_same _ _ _ h.1
  · rw [ot _ 3 1 _ (by decide), ot _ 2 1 _ (by decide)]; exact World.cell?_setCell_same _ _ _ ((ot _ 0 1 _ (by decide)).trans h.2.1)
  · rw [ot _ 3 2 _ (by decide)]; exact World.cell?_setCell_same _ _ _ ((ot _ 1 2 _ (by decide)).trans ((ot _ 0 2 _ (by decide)).trans h.2.2.1))
  · exact World.cell?_setCell_same _ _ _ ((ot _ 2 3 _ (by decide)).trans ((ot _ 1 3 _ (by decide)).trans ((ot _ 0 3 _ (by decide)).trans h.2.2.2)))

set_option maxHeartbeats 4000000 in
theorem short_any (ki ex : Int) (Ak Av : Option Addr) (nk ck nv cv mk mv : Nat) (hk : nk ≤ ck) (hv : nv ≤ cv) (hck : ck ≤ 9223372036854775807) (hcv : cv ≤ 9223372036854775807) (hmk : (nk ≤ 260 ∧ mk = nk) ∨ (260 < nk ∧ mk = 260)) (hmv : (nv ≤ 200 ∧ mv = nv) ∨ (200 < nv ∧ mv = 200)) (w : World) :
    Calls Tryd.prog 17 #[.agg #[.int .i64 ki, .slice Ak nk ck, .slice Av nv cv, .int .i64 ex]] w fun e w' => e = .returned (.agg #[.int .i64 ki, .slice Ak mk ck, .slice Av mv cv, .int .i64 ex]) ∧ Below w.heap.size w w' := by
  rcases hmk with ⟨h1, rfl⟩ | ⟨h1, rfl⟩
  all_goals rcases hmv with ⟨h2, rfl⟩ | ⟨h2, rfl⟩
  · have h1' : (mk : Int) ≤ 260 := by omega
    have h2' : (mv : Int) ≤ 200 := by omega
    have h3' : (mk : Int) ≤ (ck : Int) := by omega
    have h4' : (mv : Int) ≤ (cv : Int) := by omega
    go_enter Tryd.func17, Tryd.ntmps17
    go_wp2_with fail
    go_region
    all_goals
      go_wp2
      refine bodyPost_ret (v := .agg #[.int .i64 ki, .slice Ak mk ck, .slice Av mv cv, .int .i64 ex]) (by simp [results, Tryd.results17, go_sem, *]) rfl ?_
      exact ⟨rfl, by (repeat (first | with_reducible exact Below.refl _ _ | with_reducible refine Below.setCell ?_ (by first | (simp; done) | (simp; omega) | omega) _ | with_reducible refine Below.alloc ?_ (by first | (simp; done) | (simp; omega) | omega) _ | with_reducible refine Below.drew ?_))⟩
  · have h1' : (mk : Int) ≤ 260 := by omega
    have h2' : (200 : Int) < (nv : Int) := by omega
    have h3' : (mk : Int) ≤ (ck : Int) := by omega
    have h4' : (200 : Int) ≤ (cv : Int) := by omega
    go_enter Tryd.func17, Tryd.ntmps17
    go_wp2_with fail
    go_region
    all_goals
      go_wp2
      refine bodyPost_ret (v := .agg #[.int .i64 ki, .slice Ak mk ck, .slice Av 200 cv, .int .i64 ex]) (by simp [results, Tryd.results17, go_sem, *]) rfl ?_
      exact ⟨rfl, by (repeat (first | with_reducible exact Below.refl _ _ | with_reducible refine Below.setCell ?_ (by first | (simp; done) | (simp; omega) | omega) _ | with_reducible refine Below.alloc ?_ (by first | (simp; done) | (simp; omega) | omega) _ | with_reducible refine Below.drew ?_))⟩
  · have h1' : (260 : Int) < (nk : Int) := by omega
    have h2' : (mv : Int) ≤ 200 := by omega
    have h3' : (260 : Int) ≤ (ck : Int) := by omega
    have h4' : (mv : Int) ≤ (cv : Int) := by omega
    go_enter Tryd.func17, Tryd.ntmps17
    go_wp2_with fail
    go_region
    all_goals
      go_wp2
      refine bodyPost_ret (v := .agg #[.int .i64 ki, .slice Ak 260 ck, .slice Av mv cv, .int .i64 ex]) (by simp [results, Tryd.results17, go_sem, *]) rfl ?_
      exact ⟨rfl, by (repeat (first | with_reducible exact Below.refl _ _ | with_reducible refine Below.setCell ?_ (by first | (simp; done) | (simp; omega) | omega) _ | with_reducible refine Below.alloc ?_ (by first | (simp; done) | (simp; omega) | omega) _ | with_reducible refine Below.drew ?_))⟩
  · have h1' : (260 : Int) < (nk : Int) := by omega
    have h2' : (200 : Int) < (nv : Int) := by omega
    have h3' : (260 : Int) ≤ (ck : Int) := by omega
    have h4' : (200 : Int) ≤ (cv : Int) := by omega
    go_enter Tryd.func17, Tryd.ntmps17
    go_wp2_with fail
    go_region
    all_goals
      go_wp2
      refine bodyPost_ret (v := .agg #[.int .i64 ki, .slice Ak 260 ck, .slice Av 200 cv, .int .i64 ex]) (by simp [results, Tryd.results17, go_sem, *]) rfl ?_
      exact ⟨rfl, by (repeat (first | with_reducible exact Below.refl _ _ | with_reducible refine Below.setCell ?_ (by first | (simp; done) | (simp; omega) | omega) _ | with_reducible refine Below.alloc ?_ (by first | (simp; done) | (simp; omega) | omega) _ | with_reducible refine Below.drew ?_))⟩

end Go.Proofs.YtecmopfaeopmdaaDoor
