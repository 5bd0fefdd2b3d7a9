/- Ints and Frames of rows that are alike. -/
import Derived.Test.YthgpmnblkhehkaaDoorPackTake
import Derived.Deep.QuietTactic
namespace Go.Proofs.YthgpmnblkhehkaaDoor
open Go.RowKit

theorem Vat.get {w : World} {B n k : Nat} {A : Option Addr} {xs : List Value} (h : Vat w B A n xs) (hk : k < n) : ∃ x ad, xs[k]? = some x ∧ A = some ad ∧ ad.block < B ∧ w.cell? (ad.add k) = some x := by
  have hl : k < xs.length := by rw [h.1]; exact hk
  obtain ⟨ad, e, r⟩ := h.2 k _ (List.getElem?_eq_getElem hl)
  exact ⟨_, ad, List.getElem?_eq_getElem hl, e, r⟩
theorem ints_get {l : List Int} {k : Nat} {x : Value} (h : (ints l)[k]? = some x) : ∃ z, x = .int .i64 z ∧ l[k]? = some z := by
  unfold ints at h
  rw [List.getElem?_map] at h
  obtain ⟨z, hz, rfl⟩ := Option.map_eq_some_iff.1 h
  exact ⟨z, rfl, hz⟩


/-- Each value is a slice of these bytes. -/
def Elems (w : World) (vs : List Value) (F : List (List UInt8)) : Prop :=
  vs.length = F.length ∧ ∀ (j : Nat) (v : Value) (b : List UInt8), vs[j]? = some v → F[j]? = some b → ∃ A c, v = Value.slice A b.length c ∧ b.length ≤ c ∧ c ≤ 9223372036854775807 ∧ Byt w w.heap.size A b.length b
theorem FrsAt.elems {w : World} {L : Nat → Prop} {vs : List Value} {F : List (List UInt8)} (h : FrsAt w L vs F) : Elems w vs F := ⟨h.1, fun j v b hv hF => by
  obtain ⟨g, c, e, h1, h2, _, _, hy⟩ := h.2 j v b hv hF
  exact ⟨_, c, e, h1, h2, hy⟩⟩
theorem Elems.below {w w' : World} {vs : List Value} {F : List (List UInt8)} (h : Elems w vs F) (hb : Below w.heap.size w w') : Elems w' vs F := ⟨h.1, fun j v b hv hF => by
  obtain ⟨A, c, e, h1, h2, hy⟩ := h.2 j v b hv hF
  exact ⟨A, c, e, h1, h2, (hy.below hb).more hb.size⟩⟩

end Go.Proofs.YthgpmnblkhehkaaDoor
