/- Structs by value, opened (tools/mkopen.py). -/
import Derived.Test.YtepbchaeeldjmaaDoorOpen
namespace Go.Proofs.YtepbchaeeldjmaaDoor
open Go.ChangeShapes Go.WideShapes Go.ChangeAt Go.RowKit

section
variable {H : Type} {enc : TypeId × Value → H} {W : World}

theorem list_6 {α : Type} {l : List α} (h : l.length = 6) : ∃ c0 c1 c2 c3 c4 c5, l = [c0, c1, c2, c3, c4, c5] := by
  match l, h with
  | [c0, c1, c2, c3, c4, c5], _ => exact ⟨c0, c1, c2, c3, c4, c5, rfl⟩
theorem cells_Header {fuel : Nat} {cs : List Value} {x : DataW H × List MemPlace} (hl : cs.length = 6) (h : DataW.trod enc Tryd.prog W 0 (fun _ => true) true fuel 41 cs = some x) :
    ∃ (ve : Int) (sl : Int) (la : Int) (sq : Int) (ta : Int) (no : Int), cs = [.int .i64 ve, .int .i64 sl, .int .i64 la, .int .i64 sq, .int .i64 ta, .int .i64 no] ∧ I64b ve ∧ I64b sl ∧ I64b la ∧ I64b sq ∧ I64b ta ∧ I64b no := by
  obtain ⟨m0, y0, hy0, hs0⟩ := field_at Tryd.underlying41 h 0 _ rfl 0 1 (by kernel_rfl) (by kernel_rfl)
  obtain ⟨m1, y1, hy1, hs1⟩ := field_at Tryd.underlying41 h 1 _ rfl 1 1 (by kernel_rfl) (by kernel_rfl)
  obtain ⟨m2, y2, hy2, hs2⟩ := field_at Tryd.underlying41 h 2 _ rfl 2 1 (by kernel_rfl) (by kernel_rfl)
  obtain ⟨m3, y3, hy3, hs3⟩ := field_at Tryd.underlying41 h 3 _ rfl 3 1 (by kernel_rfl) (by kernel_rfl)
  obtain ⟨m4, y4, hy4, hs4⟩ := field_at Tryd.underlying41 h 4 _ rfl 4 1 (by kernel_rfl) (by kernel_rfl)
  obtain ⟨m5, y5, hy5, hs5⟩ := field_at Tryd.underlying41 h 5 _ rfl 5 1 (by kernel_rfl) (by kernel_rfl)
  obtain ⟨c0, c1, c2, c3, c4, c5, rfl⟩ := list_6 hl
  have hz0 : DataW.trod enc Tryd.prog W 0 (fun _ => true) true m0 3 [c0] = some y0 := hy0
  obtain ⟨ve, h0, q0⟩ := int_cell Tryd.underlying3 hz0
  have hz1 : DataW.trod enc Tryd.prog W 0 (fun _ => true) true m1 3 [c1] = some y1 := hy1
  obtain ⟨sl, h1, q1⟩ := int_cell Tryd.underlying3 hz1
  have hz2 : DataW.trod enc Tryd.prog W 0 (fun _ => true) true m2 3 [c2] = some y2 := hy2
  obtain ⟨la, h2, q2⟩ := int_cell Tryd.underlying3 hz2
  have hz3 : DataW.trod enc Tryd.prog W 0 (fun _ => true) true m3 3 [c3] = some y3 := hy3
  obtain ⟨sq, h3, q3⟩ := int_cell Tryd.underlying3 hz3
  have hz4 : DataW.trod enc Tryd.prog W 0 (fun _ => true) true m4 3 [c4] = some y4 := hy4
  obtain ⟨ta, h4, q4⟩ := int_cell Tryd.underlying3 hz4
  have hz5 : DataW.trod enc Tryd.prog W 0 (fun _ => true) true m5 3 [c5] = some y5 := hy5
  obtain ⟨no, h5, q5⟩ := int_cell Tryd.underlying3 hz5
  simp only [List.cons.injEq, and_true] at h0 h1 h2 h3 h4 h5
  obtain rfl := h0
  obtain rfl := h1
  obtain rfl := h2
  obtain rfl := h3
  obtain rfl := h4
  obtain rfl := h5
  exact ⟨ve, sl, la, sq, ta, no, rfl, q0, q1, q2, q3, q4, q5⟩
theorem open_Header {v : Value} {d : DataW H} {ps : List MemPlace} {r : Reach} {b0 : Nat} (hv : Value.okWide Tryd.prog W r b0 41 v) (h : DataW.Trod enc Tryd.prog W 0 (fun _ => true) true 41 v d ps) :
    ∃ (ve : Int) (sl : Int) (la : Int) (sq : Int) (ta : Int) (no : Int), v = .agg #[.int .i64 ve, .int .i64 sl, .int .i64 la, .int .i64 sq, .int .i64 ta, .int .i64 no] ∧ I64b ve ∧ I64b sl ∧ I64b la ∧ I64b sq ∧ I64b ta ∧ I64b no := by
  obtain ⟨cs, rfl, hsz⟩ := okWide_struct Tryd.underlying41 hv
  obtain ⟨fuel, hf⟩ := h
  obtain ⟨ve, sl, la, sq, ta, no, hcs, q0, q1, q2, q3, q4, q5⟩ := cells_Header (cs := cs.toList) (by rw [Array.length_toList, hsz]; kernel_rfl) hf
  exact ⟨ve, sl, la, sq, ta, no, by rw [← Array.toArray_toList (xs := cs), hcs], q0, q1, q2, q3, q4, q5⟩

theorem list_14 {α : Type} {l : List α} (h : l.length = 14) : ∃ c0 c1 c2 c3 c4 c5 c6 c7 c8 c9 c10 c11 c12 c13, l = [c0, c1, c2, c3, c4, c5, c6, c7, c8, c9, c10, c11, c12, c13] := by
  match l, h with
  | [c0, c1, c2, c3, c4, c5, c6, c7, c8, c9, c10, c11, c12, c13], _ => exact ⟨c0, c1, c2, c3, c4, c5, c6, c7, c8, c9, c10, c11, c12, c13, rfl⟩
theorem cells_Two {fuel : Nat} {cs : List Value} {x : DataW H × List MemPlace} (hl : cs.length = 14) (h : DataW.trod enc Tryd.prog W 0 (fun _ => true) true fuel 50 cs = some x) :
    ∃ (a_ve : Int) (a_sl : Int) (a_la : Int) (a_sq : Int) (a_ta : Int) (a_no : Int) (b_ve : Int) (b_sl : Int) (b_la : Int) (b_sq : Int) (b_ta : Int) (b_no : Int) (s : Int) (t : Int), cs = [.int .i64 a_ve, .int .i64 a_sl, .int .i64 a_la, .int .i64 a_sq, .int .i64 a_ta, .int .i64 a_no, .int .i64 b_ve, .int .i64 b_sl, .int .i64 b_la, .int .i64 b_sq, .int .i64 b_ta, .int .i64 b_no, .int .i64 s, .int .i64 t] ∧ I64b a_ve ∧ I64b a_sl ∧ I64b a_la ∧ I64b a_sq ∧ I64b a_ta ∧ I64b a_no ∧ I64b b_ve ∧ I64b b_sl ∧ I64b b_la ∧ I64b b_sq ∧ I64b b_ta ∧ I64b b_no ∧ I64b s ∧ I64b t := by
  obtain ⟨m0, y0, hy0, hs0⟩ := field_at Tryd.underlying50 h 0 _ rfl 0 6 (by kernel_rfl) (by kernel_rfl)
  obtain ⟨m1, y1, hy1, hs1⟩ := field_at Tryd.underlying50 h 1 _ rfl 6 6 (by kernel_rfl) (by kernel_rfl)
  obtain ⟨m2, y2, hy2, hs2⟩ := field_at Tryd.underlying50 h 2 _ rfl 12 1 (by kernel_rfl) (by kernel_rfl)
  obtain ⟨m3, y3, hy3, hs3⟩ := field_at Tryd.underlying50 h 3 _ rfl 13 1 (by kernel_rfl) (by kernel_rfl)
  obtain ⟨c0, c1, c2, c3, c4, c5, c6, c7, c8, c9, c10, c11, c12, c13, rfl⟩ := list_14 hl
  have hz0 : DataW.trod enc Tryd.prog W 0 (fun _ => true) true m0 41 [c0, c1, c2, c3, c4, c5] = some y0 := hy0
  obtain ⟨a_ve, a_sl, a_la, a_sq, a_ta, a_no, h0, q0_0, q0_1, q0_2, q0_3, q0_4, q0_5⟩ := cells_Header rfl hz0
  have hz1 : DataW.trod enc Tryd.prog W 0 (fun _ => true) true m1 41 [c6, c7, c8, c9, c10, c11] = some y1 := hy1
  obtain ⟨b_ve, b_sl, b_la, b_sq, b_ta, b_no, h1, q1_0, q1_1, q1_2, q1_3, q1_4, q1_5⟩ := cells_Header rfl hz1
  have hz2 : DataW.trod enc Tryd.prog W 0 (fun _ => true) true m2 3 [c12] = some y2 := hy2
  obtain ⟨s, h2, q2⟩ := int_cell Tryd.underlying3 hz2
  have hz3 : DataW.trod enc Tryd.prog W 0 (fun _ => true) true m3 3 [c13] = some y3 := hy3
  obtain ⟨t, h3, q3⟩ := int_cell Tryd.underlying3 hz3
  simp only [List.cons.injEq, and_true] at h0 h1 h2 h3
  obtain ⟨rfl, rfl, rfl, rfl, rfl, rfl⟩ := h0
  obtain ⟨rfl, rfl, rfl, rfl, rfl, rfl⟩ := h1
  obtain rfl := h2
  obtain rfl := h3
  exact ⟨a_ve, a_sl, a_la, a_sq, a_ta, a_no, b_ve, b_sl, b_la, b_sq, b_ta, b_no, s, t, rfl, q0_0, q0_1, q0_2, q0_3, q0_4, q0_5, q1_0, q1_1, q1_2, q1_3, q1_4, q1_5, q2, q3⟩
theorem open_Two {v : Value} {d : DataW H} {ps : List MemPlace} {r : Reach} {b0 : Nat} (hv : Value.okWide Tryd.prog W r b0 50 v) (h : DataW.Trod enc Tryd.prog W 0 (fun _ => true) true 50 v d ps) :
    ∃ (a_ve : Int) (a_sl : Int) (a_la : Int) (a_sq : Int) (a_ta : Int) (a_no : Int) (b_ve : Int) (b_sl : Int) (b_la : Int) (b_sq : Int) (b_ta : Int) (b_no : Int) (s : Int) (t : Int), v = .agg #[.int .i64 a_ve, .int .i64 a_sl, .int .i64 a_la, .int .i64 a_sq, .int .i64 a_ta, .int .i64 a_no, .int .i64 b_ve, .int .i64 b_sl, .int .i64 b_la, .int .i64 b_sq, .int .i64 b_ta, .int .i64 b_no, .int .i64 s, .int .i64 t] ∧ I64b a_ve ∧ I64b a_sl ∧ I64b a_la ∧ I64b a_sq ∧ I64b a_ta ∧ I64b a_no ∧ I64b b_ve ∧ I64b b_sl ∧ I64b b_la ∧ I64b b_sq ∧ I64b b_ta ∧ I64b b_no ∧ I64b s ∧ I64b t := by
  obtain ⟨cs, rfl, hsz⟩ := okWide_struct Tryd.underlying50 hv
  obtain ⟨fuel, hf⟩ := h
  obtain ⟨a_ve, a_sl, a_la, a_sq, a_ta, a_no, b_ve, b_sl, b_la, b_sq, b_ta, b_no, s, t, hcs, q0, q1, q2, q3, q4, q5, q6, q7, q8, q9, q10, q11, q12, q13⟩ := cells_Two (cs := cs.toList) (by rw [Array.length_toList, hsz]; kernel_rfl) hf
  exact ⟨a_ve, a_sl, a_la, a_sq, a_ta, a_no, b_ve, b_sl, b_la, b_sq, b_ta, b_no, s, t, by rw [← Array.toArray_toList (xs := cs), hcs], q0, q1, q2, q3, q4, q5, q6, q7, q8, q9, q10, q11, q12, q13⟩

end
end Go.Proofs.YtepbchaeeldjmaaDoor
