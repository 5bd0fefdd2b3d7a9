/- A script among the arguments. -/
import Derived.Test.YtecmopfaeopmdaaDoorOpenRecs
import Derived.Test.YtecmopfaeopmdaaDoorPackSame
namespace Go.Proofs.YtecmopfaeopmdaaDoor
open Go.ChangeShapes Go.WideShapes Go.ChangeAt Go.RowKit

section
variable {H : Type} {enc : TypeId × Value → H} {W : World}
theorem list_7 {α : Type} {l : List α} (h : l.length = 7) : ∃ c0 c1 c2 c3 c4 c5 c6, l = [c0, c1, c2, c3, c4, c5, c6] := by
  match l, h with
  | [c0, c1, c2, c3, c4, c5, c6], _ => exact ⟨c0, c1, c2, c3, c4, c5, c6, rfl⟩
/-- The cells of a call. -/
theorem op_at {n : Nat} {ad : Addr} {cs' : List Value} {y : DataW H × List MemPlace} (hl : cs'.length = 7) (hc : ∀ j, j < 7 → W.cell? (ad.add j) = cs'[j]?) (hy : DataW.trod enc Tryd.prog W 0 (fun _ => true) true n 56 cs' = some y)
    (hlt : ∀ p ∈ y.2, p.block < W.heap.size) : ∃ o : Op7, Op7At W W.heap.size ad o := by
  obtain ⟨m0, y0, hy0, hs0⟩ := field_at Tryd.underlying56 hy 0 _ rfl 0 1 (by kernel_rfl) (by kernel_rfl)
  obtain ⟨m1, y1, hy1, hs1⟩ := field_at Tryd.underlying56 hy 1 _ rfl 1 4 (by kernel_rfl) (by kernel_rfl)
  obtain ⟨m2, y2, hy2, hs2⟩ := field_at Tryd.underlying56 hy 2 _ rfl 5 1 (by kernel_rfl) (by kernel_rfl)
  obtain ⟨m3, y3, hy3, hs3⟩ := field_at Tryd.underlying56 hy 3 _ rfl 6 1 (by kernel_rfl) (by kernel_rfl)
  obtain ⟨c0, c1, c2, c3, c4, c5, c6, rfl⟩ := list_7 hl
  have hz0 : DataW.trod enc Tryd.prog W 0 (fun _ => true) true m0 3 [c0] = some y0 := hy0
  obtain ⟨kd, h0, q0⟩ := int_cell Tryd.underlying3 hz0
  have hz1 : DataW.trod enc Tryd.prog W 0 (fun _ => true) true m1 33 [c1, c2, c3, c4] = some y1 := hy1
  obtain ⟨ki, Ak, nk, ck, bk, Av, nv, cv, bv, ex, h1, q1, q2, q3, q4⟩ := cells_Record rfl hz1 (fun p hp => hlt p (hs1 p hp))
  have hz2 : DataW.trod enc Tryd.prog W 0 (fun _ => true) true m2 3 [c5] = some y2 := hy2
  obtain ⟨of, h2, q5⟩ := int_cell Tryd.underlying3 hz2
  have hz3 : DataW.trod enc Tryd.prog W 0 (fun _ => true) true m3 3 [c6] = some y3 := hy3
  obtain ⟨nn, h3, q6⟩ := int_cell Tryd.underlying3 hz3
  simp only [List.cons.injEq, and_true] at h0 h1 h2 h3
  obtain rfl := h0
  obtain ⟨rfl, rfl, rfl, rfl⟩ := h1
  obtain rfl := h2
  obtain rfl := h3
  refine ⟨⟨kd, ⟨ki, Ak, nk, ck, bk, Av, nv, cv, bv, ex⟩, of, nn⟩, ?_, ?_, ?_, ?_, ?_, ?_, ?_, q2.1, q3.1, ⟨q1, q4, q2.2.1, q2.2.2, q3.2.1, q3.2.2⟩, q0, q5, q6⟩
  · have := hc 0 (by decide); rw [addr_z] at this; simpa using this
  · have := hc 1 (by decide); simpa [Addr.add] using this
  · have := hc 2 (by decide); simpa [Addr.add] using this
  · have := hc 3 (by decide); simpa [Addr.add] using this
  · have := hc 4 (by decide); simpa [Addr.add] using this
  · have := hc 5 (by decide); simpa [Addr.add] using this
  · have := hc 6 (by decide); simpa [Addr.add] using this
theorem open_Script {v : Value} {d : DataW H} {ps : List MemPlace} {r : Reach} {b0 : Nat} (hv : Value.okWide Tryd.prog W r b0 50 v) (h : DataW.Trod enc Tryd.prog W 0 (fun _ => true) true 50 v d ps) (hlt : ∀ p ∈ ps, p.block < W.heap.size) :
    ∃ (a b c dd sl sq : Int) (Ao : Option Addr) (no co : Nat) (os : List Op7), v = .agg #[.int .i64 a, .int .i64 b, .int .i64 c, .int .i64 dd, .int .i64 sl, .int .i64 sq, .slice Ao no co] ∧ I64b a ∧ I64b b ∧ I64b c ∧ I64b dd ∧ I64b sl ∧ I64b sq ∧ OAt W W.heap.size Ao no os ∧ no ≤ co ∧ co ≤ 9223372036854775807 := by
  obtain ⟨cs, rfl, hsz⟩ := okWide_struct Tryd.underlying50 hv
  obtain ⟨fuel, hf⟩ := h
  obtain ⟨m0, y0, hy0, hs0⟩ := field_at Tryd.underlying50 hf 0 _ rfl 0 4 (by kernel_rfl) (by kernel_rfl)
  obtain ⟨m1, y1, hy1, hs1⟩ := field_at Tryd.underlying50 hf 1 _ rfl 4 1 (by kernel_rfl) (by kernel_rfl)
  obtain ⟨m2, y2, hy2, hs2⟩ := field_at Tryd.underlying50 hf 2 _ rfl 5 1 (by kernel_rfl) (by kernel_rfl)
  obtain ⟨m3, y3, hy3, hs3⟩ := field_at Tryd.underlying50 hf 3 _ rfl 6 1 (by kernel_rfl) (by kernel_rfl)
  obtain ⟨c0, c1, c2, c3, c4, c5, c6, hcs⟩ := list_7 (l := cs.toList) (by rw [Array.length_toList, hsz]; kernel_rfl)
  rw [Value.cells, hcs] at hy0 hy1 hy2 hy3
  have hz0 : DataW.trod enc Tryd.prog W 0 (fun _ => true) true m0 23 [c0, c1, c2, c3] = some y0 := hy0
  obtain ⟨a, b, c, dd, h0, q0, q1, q2, q3⟩ := cells_Layout rfl hz0
  have hz1 : DataW.trod enc Tryd.prog W 0 (fun _ => true) true m1 3 [c4] = some y1 := hy1
  obtain ⟨sl, h1, q4⟩ := int_cell Tryd.underlying3 hz1
  have hz2 : DataW.trod enc Tryd.prog W 0 (fun _ => true) true m2 3 [c5] = some y2 := hy2
  obtain ⟨sq, h2, q5⟩ := int_cell Tryd.underlying3 hz2
  have hz3 : DataW.trod enc Tryd.prog W 0 (fun _ => true) true m3 48 [c6] = some y3 := hy3
  obtain ⟨Ao, no, co, os, h3, e1, e2, e3, e4⟩ := open_elems (X := Op7) (by decide) Tryd.underlying48 (by kernel_rfl) hz3 (fun p hp => hlt p (hs3 p hp)) (fun ad o => Op7At W W.heap.size ad o) (fun ad cs' n y hl hc hy hp => op_at hl hc hy hp)
  simp only [List.cons.injEq, and_true] at h0 h1 h2 h3
  obtain ⟨rfl, rfl, rfl, rfl⟩ := h0
  obtain rfl := h1
  obtain rfl := h2
  obtain rfl := h3
  exact ⟨a, b, c, dd, sl, sq, Ao, no, co, os, by rw [← Array.toArray_toList (xs := cs), hcs], q0, q1, q2, q3, q4, q5, ⟨e1, e4⟩, e2, e3⟩
end
end Go.Proofs.YtecmopfaeopmdaaDoor
