/- Structs by value, opened (tools/mkopen.py). -/
import Derived.Test.YtecmopfaeopmdaaDoorOpen
namespace Go.Proofs.YtecmopfaeopmdaaDoor
open Go.ChangeShapes Go.WideShapes Go.ChangeAt Go.RowKit

section
variable {H : Type} {enc : TypeId × Value → H} {W : World}

theorem list_4 {α : Type} {l : List α} (h : l.length = 4) : ∃ c0 c1 c2 c3, l = [c0, c1, c2, c3] := by
  match l, h with
  | [c0, c1, c2, c3], _ => exact ⟨c0, c1, c2, c3, rfl⟩
theorem cells_Record {fuel : Nat} {cs : List Value} {x : DataW H × List MemPlace} (hl : cs.length = 4) (h : DataW.trod enc Tryd.prog W 0 (fun _ => true) true fuel 33 cs = some x) (hlt : ∀ p ∈ x.2, p.block < W.heap.size) :
    ∃ (ki : Int) (Ak : Option Addr) (nk : Nat) (ck : Nat) (bk : List UInt8) (Av : Option Addr) (nv : Nat) (cv : Nat) (bv : List UInt8) (ex : Int), cs = [.int .i64 ki, .slice Ak nk ck, .slice Av nv cv, .int .i64 ex] ∧ I64b ki ∧ BytIn W Ak nk ck bk ∧ BytIn W Av nv cv bv ∧ I64b ex := by
  obtain ⟨m0, y0, hy0, hs0⟩ := field_at Tryd.underlying33 h 0 _ rfl 0 1 (by kernel_rfl) (by kernel_rfl)
  obtain ⟨m1, y1, hy1, hs1⟩ := field_at Tryd.underlying33 h 1 _ rfl 1 1 (by kernel_rfl) (by kernel_rfl)
  obtain ⟨m2, y2, hy2, hs2⟩ := field_at Tryd.underlying33 h 2 _ rfl 2 1 (by kernel_rfl) (by kernel_rfl)
  obtain ⟨m3, y3, hy3, hs3⟩ := field_at Tryd.underlying33 h 3 _ rfl 3 1 (by kernel_rfl) (by kernel_rfl)
  obtain ⟨c0, c1, c2, c3, rfl⟩ := list_4 hl
  have hz0 : DataW.trod enc Tryd.prog W 0 (fun _ => true) true m0 3 [c0] = some y0 := hy0
  obtain ⟨ki, h0, q0⟩ := int_cell Tryd.underlying3 hz0
  have hz1 : DataW.trod enc Tryd.prog W 0 (fun _ => true) true m1 31 [c1] = some y1 := hy1
  obtain ⟨Ak, nk, ck, bk, h1, q1⟩ := bytes_cell Tryd.underlying31 Tryd.underlying5 (by kernel_rfl) hz1 (fun p hp => hlt p (hs1 p hp))
  have hz2 : DataW.trod enc Tryd.prog W 0 (fun _ => true) true m2 31 [c2] = some y2 := hy2
  obtain ⟨Av, nv, cv, bv, h2, q2⟩ := bytes_cell Tryd.underlying31 Tryd.underlying5 (by kernel_rfl) hz2 (fun p hp => hlt p (hs2 p hp))
  have hz3 : DataW.trod enc Tryd.prog W 0 (fun _ => true) true m3 3 [c3] = some y3 := hy3
  obtain ⟨ex, h3, q3⟩ := int_cell Tryd.underlying3 hz3
  simp only [List.cons.injEq, and_true] at h0 h1 h2 h3
  obtain rfl := h0
  obtain rfl := h1
  obtain rfl := h2
  obtain rfl := h3
  exact ⟨ki, Ak, nk, ck, bk, Av, nv, cv, bv, ex, rfl, q0, q1, q2, q3⟩
theorem open_Record {v : Value} {d : DataW H} {ps : List MemPlace} {r : Reach} {b0 : Nat} (hv : Value.okWide Tryd.prog W r b0 33 v) (h : DataW.Trod enc Tryd.prog W 0 (fun _ => true) true 33 v d ps) (hlt : ∀ p ∈ ps, p.block < W.heap.size) :
    ∃ (ki : Int) (Ak : Option Addr) (nk : Nat) (ck : Nat) (bk : List UInt8) (Av : Option Addr) (nv : Nat) (cv : Nat) (bv : List UInt8) (ex : Int), v = .agg #[.int .i64 ki, .slice Ak nk ck, .slice Av nv cv, .int .i64 ex] ∧ I64b ki ∧ BytIn W Ak nk ck bk ∧ BytIn W Av nv cv bv ∧ I64b ex := by
  obtain ⟨cs, rfl, hsz⟩ := okWide_struct Tryd.underlying33 hv
  obtain ⟨fuel, hf⟩ := h
  obtain ⟨ki, Ak, nk, ck, bk, Av, nv, cv, bv, ex, hcs, q0, q1, q2, q3⟩ := cells_Record (cs := cs.toList) (by rw [Array.length_toList, hsz]; kernel_rfl) hf hlt
  exact ⟨ki, Ak, nk, ck, bk, Av, nv, cv, bv, ex, by rw [← Array.toArray_toList (xs := cs), hcs], q0, q1, q2, q3⟩

theorem cells_Layout {fuel : Nat} {cs : List Value} {x : DataW H × List MemPlace} (hl : cs.length = 4) (h : DataW.trod enc Tryd.prog W 0 (fun _ => true) true fuel 23 cs = some x) :
    ∃ (id : Int) (ve : Int) (rs : Int) (rg : Int), cs = [.int .i64 id, .int .i64 ve, .int .i64 rs, .int .i64 rg] ∧ I64b id ∧ I64b ve ∧ I64b rs ∧ I64b rg := by
  obtain ⟨m0, y0, hy0, hs0⟩ := field_at Tryd.underlying23 h 0 _ rfl 0 1 (by kernel_rfl) (by kernel_rfl)
  obtain ⟨m1, y1, hy1, hs1⟩ := field_at Tryd.underlying23 h 1 _ rfl 1 1 (by kernel_rfl) (by kernel_rfl)
  obtain ⟨m2, y2, hy2, hs2⟩ := field_at Tryd.underlying23 h 2 _ rfl 2 1 (by kernel_rfl) (by kernel_rfl)
  obtain ⟨m3, y3, hy3, hs3⟩ := field_at Tryd.underlying23 h 3 _ rfl 3 1 (by kernel_rfl) (by kernel_rfl)
  obtain ⟨c0, c1, c2, c3, rfl⟩ := list_4 hl
  have hz0 : DataW.trod enc Tryd.prog W 0 (fun _ => true) true m0 3 [c0] = some y0 := hy0
  obtain ⟨id, h0, q0⟩ := int_cell Tryd.underlying3 hz0
  have hz1 : DataW.trod enc Tryd.prog W 0 (fun _ => true) true m1 3 [c1] = some y1 := hy1
  obtain ⟨ve, h1, q1⟩ := int_cell Tryd.underlying3 hz1
  have hz2 : DataW.trod enc Tryd.prog W 0 (fun _ => true) true m2 3 [c2] = some y2 := hy2
  obtain ⟨rs, h2, q2⟩ := int_cell Tryd.underlying3 hz2
  have hz3 : DataW.trod enc Tryd.prog W 0 (fun _ => true) true m3 3 [c3] = some y3 := hy3
  obtain ⟨rg, h3, q3⟩ := int_cell Tryd.underlying3 hz3
  simp only [List.cons.injEq, and_true] at h0 h1 h2 h3
  obtain rfl := h0
  obtain rfl := h1
  obtain rfl := h2
  obtain rfl := h3
  exact ⟨id, ve, rs, rg, rfl, q0, q1, q2, q3⟩
theorem open_Layout {v : Value} {d : DataW H} {ps : List MemPlace} {r : Reach} {b0 : Nat} (hv : Value.okWide Tryd.prog W r b0 23 v) (h : DataW.Trod enc Tryd.prog W 0 (fun _ => true) true 23 v d ps) :
    ∃ (id : Int) (ve : Int) (rs : Int) (rg : Int), v = .agg #[.int .i64 id, .int .i64 ve, .int .i64 rs, .int .i64 rg] ∧ I64b id ∧ I64b ve ∧ I64b rs ∧ I64b rg := by
  obtain ⟨cs, rfl, hsz⟩ := okWide_struct Tryd.underlying23 hv
  obtain ⟨fuel, hf⟩ := h
  obtain ⟨id, ve, rs, rg, hcs, q0, q1, q2, q3⟩ := cells_Layout (cs := cs.toList) (by rw [Array.length_toList, hsz]; kernel_rfl) hf
  exact ⟨id, ve, rs, rg, by rw [← Array.toArray_toList (xs := cs), hcs], q0, q1, q2, q3⟩

end
end Go.Proofs.YtecmopfaeopmdaaDoor
