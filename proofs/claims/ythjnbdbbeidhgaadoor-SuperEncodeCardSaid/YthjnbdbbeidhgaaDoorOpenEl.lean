/- A slice among the arguments, element by element: of bools, of records, of layouts, of what has cells of any kind. -/
import Derived.Test.YthjnbdbbeidhgaaDoorOpen
import Derived.Deep.Slices
namespace Go.Proofs.YthjnbdbbeidhgaaDoor
open Go.ChangeShapes Go.WideShapes Go.ChangeAt Go.RowKit Go.Deep

section
variable {H : Type} {enc : TypeId × Value → H} {P : Program} {W : World}

/-- What is true of each element's cells. -/
theorem open_elems {fuel : Nat} {t e : TypeId} {k : Nat} {cs : List Value} {x : DataW H × List MemPlace} (hk0 : 0 < k) (ht : P.underlying t = some (.slice e)) (hk : P.cellsOf e = k)
    (h : DataW.trod enc P W 0 (fun _ => true) true fuel t cs = some x) (hlt : ∀ p ∈ x.2, p.block < W.heap.size) {X : Type} (R : Addr → X → Prop)
    (each : ∀ (ad : Addr) (cs' : List Value) (n : Nat) (y : DataW H × List MemPlace), cs'.length = k → (∀ j, j < k → W.cell? (ad.add j) = cs'[j]?) → DataW.trod enc P W 0 (fun _ => true) true n e cs' = some y → (∀ p ∈ y.2, p.block < W.heap.size) → ∃ q : X, R ad q) :
    ∃ (A : Option Addr) (n cap : Nat) (xs : List X), cs = [.slice A n cap] ∧ xs.length = n ∧ n ≤ cap ∧ cap ≤ 9223372036854775807 ∧ ∀ j q, xs[j]? = some q → ∃ ad, A = some ad ∧ ad.block < W.heap.size ∧ R (ad.add (j * k)) q := by
  rcases open_slice ht h with ⟨hcs, _⟩ | ⟨a, len, cap, m, n, D, Pl, hcs, _, hl, hm, hmm, hx, hi⟩
  · exact ⟨none, 0, 0, [], hcs, rfl, by omega, by omega, fun j q hj => by simp at hj⟩
  · simp only [if_true] at hmm
    have each' : ∀ i, i < m → ∃ q : X, R (a.add (i * k)) q := by
      intro i him
      obtain ⟨cs', hc, ht'⟩ := hi i him
      rw [hk] at hc
      obtain ⟨_, hcl, hat⟩ := World.cells?_some hc
      refine each _ cs' n _ hcl hat ht' fun p hp => hlt p ?_
      rw [hx]
      exact List.mem_append_right _ (List.mem_flatMap.2 ⟨i, List.mem_range.2 him, hp⟩)
    refine ⟨some a, len, cap, (List.range len).attach.map fun i => (each' i.1 (by have := List.mem_range.1 i.2; omega)).choose, hcs, by simp, hl, by unfold maxLen at hm; omega, fun j q hj => ⟨a, rfl, ?_, ?_⟩⟩
    · have hjl : j < len := by
        have := (List.getElem?_eq_some_iff.1 hj).1
        simpa using this
      rw [hx] at hlt
      refine hlt (.cell a.block a.off) (List.mem_append_left _ (MemPlace.mem_row.2 ⟨0, ?_, by simp⟩))
      rw [hk]
      exact Nat.mul_pos (by omega) hk0
    · rw [List.getElem?_map] at hj
      obtain ⟨i, hi1, rfl⟩ := Option.map_eq_some_iff.1 hj
      have hij : i.1 = j := by
        obtain ⟨h1, h2⟩ := List.getElem?_eq_some_iff.1 hi1
        rw [← h2]
        simp
      subst hij
      exact (each' i.1 (by have := List.mem_range.1 i.2; omega)).choose_spec
/-- The same, of a value among the arguments. -/
theorem open_elems_arg {t e : TypeId} {k : Nat} {v : Value} {d : DataW H} {ps : List MemPlace} {r : Reach} {b0 : Nat} (hk0 : 0 < k) (ht : P.underlying t = some (.slice e)) (hk : P.cellsOf e = k)
    (hv : Value.okWide P W r b0 t v) (h : DataW.Trod enc P W 0 (fun _ => true) true t v d ps) (hlt : ∀ p ∈ ps, p.block < W.heap.size) {X : Type} (R : Addr → X → Prop)
    (each : ∀ (ad : Addr) (cs' : List Value) (n : Nat) (y : DataW H × List MemPlace), cs'.length = k → (∀ j, j < k → W.cell? (ad.add j) = cs'[j]?) → DataW.trod enc P W 0 (fun _ => true) true n e cs' = some y → (∀ p ∈ y.2, p.block < W.heap.size) → ∃ q : X, R ad q) :
    ∃ (A : Option Addr) (n cap : Nat) (xs : List X), v = .slice A n cap ∧ xs.length = n ∧ n ≤ cap ∧ cap ≤ 9223372036854775807 ∧ ∀ j q, xs[j]? = some q → ∃ ad, A = some ad ∧ ad.block < W.heap.size ∧ R (ad.add (j * k)) q := by
  obtain ⟨a0, len, cap, rfl⟩ := okWide_slice ht hv
  obtain ⟨fuel, hf⟩ := h
  obtain ⟨A, n, c, xs, hcs, r⟩ := open_elems (X := X) hk0 ht hk hf hlt R each
  simp only [Value.cells, List.cons.injEq, and_true] at hcs
  exact ⟨A, n, c, xs, by simpa using hcs, r⟩

theorem addr_z (a : Addr) : a.add 0 = a := by unfold Addr.add; rw [if_pos rfl]
/-- A slice of bools. -/
def BoolsIn (W : World) (A : Option Addr) (n cap : Nat) (bs : List Bool) : Prop := bs.length = n ∧ n ≤ cap ∧ cap ≤ 9223372036854775807 ∧ ∀ j b, bs[j]? = some b → ∃ ad, A = some ad ∧ ad.block < W.heap.size ∧ W.cell? (ad.add j) = some (.bool b)
theorem open_bools {t e : TypeId} {v : Value} {d : DataW H} {ps : List MemPlace} {r : Reach} {b0 : Nat} (ht : P.underlying t = some (.slice e)) (he : P.underlying e = some .bool) (hk : P.cellsOf e = 1)
    (hv : Value.okWide P W r b0 t v) (h : DataW.Trod enc P W 0 (fun _ => true) true t v d ps) (hlt : ∀ p ∈ ps, p.block < W.heap.size) :
    ∃ (A : Option Addr) (n cap : Nat) (bs : List Bool), v = .slice A n cap ∧ BoolsIn W A n cap bs := by
  obtain ⟨A, n, c, xs, hv, h1, h2, h3, h4⟩ := open_elems_arg (X := Bool) (by decide) ht hk hv h hlt (fun ad b => W.cell? ad = some (.bool b)) (fun ad cs' n y hl hc hy _ => by
    obtain ⟨b, rfl⟩ := bool_cell he hy
    exact ⟨b, by have := hc 0 (by decide); rw [addr_z] at this; simpa using this⟩)
  exact ⟨A, n, c, xs, hv, h1, h2, h3, fun j b hj => by simpa using h4 j b hj⟩
end
end Go.Proofs.YthjnbdbbeidhgaaDoor
