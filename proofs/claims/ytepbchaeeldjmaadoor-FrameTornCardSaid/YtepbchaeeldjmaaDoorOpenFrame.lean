/- Structs by value, opened (tools/mkopen.py). -/
import Derived.Test.YtepbchaeeldjmaaDoorOpen
namespace Go.Proofs.YtepbchaeeldjmaaDoor
open Go.ChangeShapes Go.WideShapes Go.ChangeAt Go.RowKit

section
variable {H : Type} {enc : TypeId × Value → H} {W : World}

theorem list_3 {α : Type} {l : List α} (h : l.length = 3) : ∃ c0 c1 c2, l = [c0, c1, c2] := by
  match l, h with
  | [c0, c1, c2], _ => exact ⟨c0, c1, c2, rfl⟩
theorem cells_Place6 {fuel : Nat} {cs : List Value} {x : DataW H × List MemPlace} (hl : cs.length = 3) (h : DataW.trod enc Tryd.prog W 0 (fun _ => true) true fuel 23 cs = some x) :
    ∃ (k : Int) (s : Int) (t : Int), cs = [.int .i64 k, .int .i64 s, .int .i64 t] ∧ I64b k ∧ I64b s ∧ I64b t := by
  obtain ⟨m0, y0, hy0, hs0⟩ := field_at Tryd.underlying23 h 0 _ rfl 0 1 (by kernel_rfl) (by kernel_rfl)
  obtain ⟨m1, y1, hy1, hs1⟩ := field_at Tryd.underlying23 h 1 _ rfl 1 1 (by kernel_rfl) (by kernel_rfl)
  obtain ⟨m2, y2, hy2, hs2⟩ := field_at Tryd.underlying23 h 2 _ rfl 2 1 (by kernel_rfl) (by kernel_rfl)
  obtain ⟨c0, c1, c2, rfl⟩ := list_3 hl
  have hz0 : DataW.trod enc Tryd.prog W 0 (fun _ => true) true m0 3 [c0] = some y0 := hy0
  obtain ⟨k, h0, q0⟩ := int_cell Tryd.underlying3 hz0
  have hz1 : DataW.trod enc Tryd.prog W 0 (fun _ => true) true m1 3 [c1] = some y1 := hy1
  obtain ⟨s, h1, q1⟩ := int_cell Tryd.underlying3 hz1
  have hz2 : DataW.trod enc Tryd.prog W 0 (fun _ => true) true m2 3 [c2] = some y2 := hy2
  obtain ⟨t, h2, q2⟩ := int_cell Tryd.underlying3 hz2
  simp only [List.cons.injEq, and_true] at h0 h1 h2
  obtain rfl := h0
  obtain rfl := h1
  obtain rfl := h2
  exact ⟨k, s, t, rfl, q0, q1, q2⟩
theorem open_Place6 {v : Value} {d : DataW H} {ps : List MemPlace} {r : Reach} {b0 : Nat} (hv : Value.okWide Tryd.prog W r b0 23 v) (h : DataW.Trod enc Tryd.prog W 0 (fun _ => true) true 23 v d ps) :
    ∃ (k : Int) (s : Int) (t : Int), v = .agg #[.int .i64 k, .int .i64 s, .int .i64 t] ∧ I64b k ∧ I64b s ∧ I64b t := by
  obtain ⟨cs, rfl, hsz⟩ := okWide_struct Tryd.underlying23 hv
  obtain ⟨fuel, hf⟩ := h
  obtain ⟨k, s, t, hcs, q0, q1, q2⟩ := cells_Place6 (cs := cs.toList) (by rw [Array.length_toList, hsz]; kernel_rfl) hf
  exact ⟨k, s, t, by rw [← Array.toArray_toList (xs := cs), hcs], q0, q1, q2⟩

theorem list_9 {α : Type} {l : List α} (h : l.length = 9) : ∃ c0 c1 c2 c3 c4 c5 c6 c7 c8, l = [c0, c1, c2, c3, c4, c5, c6, c7, c8] := by
  match l, h with
  | [c0, c1, c2, c3, c4, c5, c6, c7, c8], _ => exact ⟨c0, c1, c2, c3, c4, c5, c6, c7, c8, rfl⟩
theorem cells_Torn {fuel : Nat} {cs : List Value} {x : DataW H × List MemPlace} (hl : cs.length = 9) (h : DataW.trod enc Tryd.prog W 0 (fun _ => true) true fuel 38 cs = some x) (hlt : ∀ p ∈ x.2, p.block < W.heap.size) :
    ∃ (p_k : Int) (p_s : Int) (p_t : Int) (Ab : Option Addr) (nb : Nat) (cb : Nat) (bb : List UInt8) (ps : Int) (x0 : UInt8) (x1 : UInt8) (x2 : UInt8) (x3 : UInt8), cs = [.int .i64 p_k, .int .i64 p_s, .int .i64 p_t, .slice Ab nb cb, .int .i64 ps, .int .u8 (x0.toNat : Int), .int .u8 (x1.toNat : Int), .int .u8 (x2.toNat : Int), .int .u8 (x3.toNat : Int)] ∧ I64b p_k ∧ I64b p_s ∧ I64b p_t ∧ BytIn W Ab nb cb bb ∧ I64b ps := by
  obtain ⟨m0, y0, hy0, hs0⟩ := field_at Tryd.underlying38 h 0 _ rfl 0 3 (by kernel_rfl) (by kernel_rfl)
  obtain ⟨m1, y1, hy1, hs1⟩ := field_at Tryd.underlying38 h 1 _ rfl 3 1 (by kernel_rfl) (by kernel_rfl)
  obtain ⟨m2, y2, hy2, hs2⟩ := field_at Tryd.underlying38 h 2 _ rfl 4 1 (by kernel_rfl) (by kernel_rfl)
  obtain ⟨m3, y3, hy3, hs3⟩ := field_at Tryd.underlying38 h 3 _ rfl 5 4 (by kernel_rfl) (by kernel_rfl)
  obtain ⟨c0, c1, c2, c3, c4, c5, c6, c7, c8, rfl⟩ := list_9 hl
  have hz0 : DataW.trod enc Tryd.prog W 0 (fun _ => true) true m0 23 [c0, c1, c2] = some y0 := hy0
  obtain ⟨p_k, p_s, p_t, h0, q0_0, q0_1, q0_2⟩ := cells_Place6 rfl hz0
  have hz1 : DataW.trod enc Tryd.prog W 0 (fun _ => true) true m1 24 [c3] = some y1 := hy1
  obtain ⟨Ab, nb, cb, bb, h1, q1⟩ := bytes_cell Tryd.underlying24 Tryd.underlying5 (by kernel_rfl) hz1 (fun p hp => hlt p (hs1 p hp))
  have hz2 : DataW.trod enc Tryd.prog W 0 (fun _ => true) true m2 3 [c4] = some y2 := hy2
  obtain ⟨ps, h2, q2⟩ := int_cell Tryd.underlying3 hz2
  have hz3 : DataW.trod enc Tryd.prog W 0 (fun _ => true) true m3 36 [c5, c6, c7, c8] = some y3 := hy3
  obtain ⟨x0, x1, x2, x3, h3⟩ := arr4_cell Tryd.underlying36 Tryd.underlying5 (by kernel_rfl) rfl hz3
  simp only [List.cons.injEq, and_true] at h0 h1 h2 h3
  obtain ⟨rfl, rfl, rfl⟩ := h0
  obtain rfl := h1
  obtain rfl := h2
  obtain ⟨rfl, rfl, rfl, rfl⟩ := h3
  exact ⟨p_k, p_s, p_t, Ab, nb, cb, bb, ps, x0, x1, x2, x3, rfl, q0_0, q0_1, q0_2, q1, q2⟩
theorem open_Torn {v : Value} {d : DataW H} {ps : List MemPlace} {r : Reach} {b0 : Nat} (hv : Value.okWide Tryd.prog W r b0 38 v) (h : DataW.Trod enc Tryd.prog W 0 (fun _ => true) true 38 v d ps) (hlt : ∀ p ∈ ps, p.block < W.heap.size) :
    ∃ (p_k : Int) (p_s : Int) (p_t : Int) (Ab : Option Addr) (nb : Nat) (cb : Nat) (bb : List UInt8) (ps : Int) (x0 : UInt8) (x1 : UInt8) (x2 : UInt8) (x3 : UInt8), v = .agg #[.int .i64 p_k, .int .i64 p_s, .int .i64 p_t, .slice Ab nb cb, .int .i64 ps, .int .u8 (x0.toNat : Int), .int .u8 (x1.toNat : Int), .int .u8 (x2.toNat : Int), .int .u8 (x3.toNat : Int)] ∧ I64b p_k ∧ I64b p_s ∧ I64b p_t ∧ BytIn W Ab nb cb bb ∧ I64b ps := by
  obtain ⟨cs, rfl, hsz⟩ := okWide_struct Tryd.underlying38 hv
  obtain ⟨fuel, hf⟩ := h
  obtain ⟨p_k, p_s, p_t, Ab, nb, cb, bb, ps, x0, x1, x2, x3, hcs, q0, q1, q2, q3, q4⟩ := cells_Torn (cs := cs.toList) (by rw [Array.length_toList, hsz]; kernel_rfl) hf hlt
  exact ⟨p_k, p_s, p_t, Ab, nb, cb, bb, ps, x0, x1, x2, x3, by rw [← Array.toArray_toList (xs := cs), hcs], q0, q1, q2, q3, q4⟩

end
end Go.Proofs.YtepbchaeeldjmaaDoor
