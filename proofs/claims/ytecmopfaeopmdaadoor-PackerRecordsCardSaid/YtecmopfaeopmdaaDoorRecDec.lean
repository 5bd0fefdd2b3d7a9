/- The walk of record.Decode. -/
import Derived.Test.YtecmopfaeopmdaaDoorRecEnc
import Derived.Test.YtecmopfaeopmdaaDoorRS
import Derived.Deep.RegionWith
import Derived.Deep.RegionHeld3
import Derived.IntWalk
namespace Go.Proofs.YtecmopfaeopmdaaDoor
open Go.RowKit

/-- What Decode leaves. -/
def RDecRes (r : Option (Rcd × Nat)) (w : World) (e : Ending) (w' : World) : Prop :=
  match r with
  | none => e = .returned (.tuple #[.agg #[.int .i64 0, .slice none 0 0, .slice none 0 0, .int .i64 0], .int .i64 0, .bool false]) ∧ Below w.heap.size w w'
  | some ((ki, ex, key, val), m) => ∃ Ak ck Av cv, e = .returned (.tuple #[.agg #[.int .i64 ki, .slice Ak key.length ck, .slice Av val.length cv, .int .i64 ex], .int .i64 (m : Int), .bool true]) ∧ Own w' w.heap.size 5 (.slice Ak key.length ck) key.length key ∧ Own w' w.heap.size 5 (.slice Av val.length cv) val.length val ∧ Below w.heap.size w w'

theorem rec_stored {v8 : World} {rr b6 ki ex nk nv ck cv : Nat} {Ak Av : Option Addr} {key val : List UInt8} (hrr : rr < b6) (h0 : v8.cell? ⟨rr, 0, none⟩ = some (.int .i64 (ki : Int))) (h1 : v8.cell? ⟨rr, 1, none⟩ = some (.slice none 0 0)) (h2 : v8.cell? ⟨rr, 2, none⟩ = some (.slice none 0 0)) (h3 : v8.cell? ⟨rr, 3, none⟩ = some (.int .i64 (ex : Int)))
    (hk : Own v8 b6 5 (.slice Ak nk ck) nk key) (hv : Own v8 b6 5 (.slice Av nv cv) nv val) :
    ∀ w9, w9 = (v8.setCell ⟨rr, 1, none⟩ (.slice Ak nk ck)).setCell ⟨rr, 2, none⟩ (.slice Av nv cv) → BoxR w9 rr ki Ak nk ck Av nv cv ex ∧ Own w9 b6 5 (.slice Ak nk ck) nk key ∧ Own w9 b6 5 (.slice Av nv cv) nv val ∧ w9.heap.size = v8.heap.size ∧ (∀ B, B ≤ rr → Below B v8 w9) := by
  rintro _ rfl
  have kp : ∀ b, b6 ≤ b → b < v8.heap.size → ((v8.setCell ⟨rr, 1, none⟩ (.slice Ak nk ck)).setCell ⟨rr, 2, none⟩ (.slice Av nv cv)).heap[b]? = v8.heap[b]? := fun b hb _ => (Below.heap_setCell _ _ _ b (by simp only; omega)).trans (Below.heap_setCell _ _ _ b (by simp only; omega))
  refine ⟨⟨?_, ?_, ?_, ?_⟩, hk.keepIn kp, hv.keepIn kp, by simp [World.setCell], fun B hB => Below.setCell (Below.setCell (Below.refl _ _) hB _) hB _⟩
  · exact (World.cell?_setCell_other _ _ _ _ (fun e => by injection e; omega)).trans ((World.cell?_setCell_other _ _ _ _ (fun e => by injection e; omega)).trans h0)
  · exact (World.cell?_setCell_other _ _ _ _ (fun e => by injection e; omega)).trans (World.cell?_setCell_same _ _ _ h1)
  · exact World.cell?_setCell_same _ _ _ ((World.cell?_setCell_other _ _ _ _ (fun e => by injection e; omega)).trans h2)
  · exact (World.cell?_setCell_other _ _ _ _ (fun e => by injection e; omega)).trans ((World.cell?_setCell_other _ _ _ _ (fun e => by injection e; omega)).trans h3)

theorem rec_two {v5 : World} {rr ki ex : Nat} (z0 : v5.cell? ⟨rr, 0, none⟩ = some (.int .i64 0)) (z1 : v5.cell? ⟨rr, 1, none⟩ = some (.slice none 0 0)) (z2 : v5.cell? ⟨rr, 2, none⟩ = some (.slice none 0 0)) (z3 : v5.cell? ⟨rr, 3, none⟩ = some (.int .i64 0)) (zf : ∀ j, v5.frozen? ⟨rr, j, none⟩ = false) :
    ∀ v6, v6 = (v5.setCell ⟨rr, 0, none⟩ (.int .i64 (ki : Int))).setCell ⟨rr, 3, none⟩ (.int .i64 (ex : Int)) → BoxR v6 rr ki none 0 0 none 0 0 ex ∧ (∀ j, v6.frozen? ⟨rr, j, none⟩ = false) ∧ v6.heap.size = v5.heap.size ∧ (∀ B, B ≤ rr → Below B v5 v6) := by
  rintro _ rfl
  refine ⟨⟨?_, ?_, ?_, ?_⟩, fun j => ?_, by simp [World.setCell], fun B hB => Below.setCell (Below.setCell (Below.refl _ _) hB _) hB _⟩
  · exact (World.cell?_setCell_other _ _ _ _ (fun e => by injection e; omega)).trans (World.cell?_setCell_same _ _ _ z0)
  · exact (World.cell?_setCell_other _ _ _ _ (fun e => by injection e; omega)).trans ((World.cell?_setCell_other _ _ _ _ (fun e => by injection e; omega)).trans z1)
  · exact (World.cell?_setCell_other _ _ _ _ (fun e => by injection e; omega)).trans ((World.cell?_setCell_other _ _ _ _ (fun e => by injection e; omega)).trans z2)
  · exact World.cell?_setCell_same _ _ _ ((World.cell?_setCell_other _ _ _ _ (fun e => by injection e; omega)).trans z3)
  · rw [World.frozen?_setCell, World.frozen?_setCell]; exact zf j
theorem own_set4 {v : World} {base rb n : Nat} {e : TypeId} {x : Value} {bs : List UInt8} (h : Own v base e x n bs) (hrb : rb < base) (a b c d : Value) : Own ((((v.setCell ⟨rb, 0, none⟩ a).setCell ⟨rb, 1, none⟩ b).setCell ⟨rb, 2, none⟩ c).setCell ⟨rb, 3, none⟩ d) base e x n bs :=
  h.keepIn fun k hk _ => (Below.heap_setCell _ _ _ k (by simp only; omega)).trans ((Below.heap_setCell _ _ _ k (by simp only; omega)).trans ((Below.heap_setCell _ _ _ k (by simp only; omega)).trans (Below.heap_setCell _ _ _ k (by simp only; omega))))


end Go.Proofs.YtecmopfaeopmdaaDoor
