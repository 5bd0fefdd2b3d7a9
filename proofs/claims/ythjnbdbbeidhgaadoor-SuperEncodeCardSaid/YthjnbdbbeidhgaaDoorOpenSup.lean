/- Structs by value, opened (tools/mkopen.py). -/
import Derived.Test.YthjnbdbbeidhgaaDoorOpen
import Derived.Test.YthjnbdbbeidhgaaDoorOpenEl
import Derived.Test.YthjnbdbbeidhgaaDoorLayouts
namespace Go.Proofs.YthjnbdbbeidhgaaDoor
open Go.ChangeShapes Go.WideShapes Go.ChangeAt Go.RowKit

section
variable {H : Type} {enc : TypeId × Value → H} {W : World}

theorem list_4 {α : Type} {l : List α} (h : l.length = 4) : ∃ c0 c1 c2 c3, l = [c0, c1, c2, c3] := by
  match l, h with
  | [c0, c1, c2, c3], _ => exact ⟨c0, c1, c2, c3, rfl⟩
theorem cells_Layout {fuel : Nat} {cs : List Value} {x : DataW H × List MemPlace} (hl : cs.length = 4) (h : DataW.trod enc Tryd.prog W 0 (fun _ => true) true fuel 23 cs = some x) :
    ∃ (id : Int) (ve : Int) (rs : Int) (rg : Int), cs = [.int .i64 id, .int .i64 ve, .int .i64 rs, .int .i64 rg] ∧ I64b id ∧ I64b ve ∧ I64b rs ∧ I64b rg := by
  obtain ⟨m0, y0, hy0, hs0⟩ := field_at Tryd.underlying23 h 0 _ rfl 0 1 (by kernel_rfl) (by kernel_rfl)
  obtain ⟨m1, y1, hy1, hs1⟩ := field_at Tryd.underlying23 h 1 _ rfl 1 1 (by kernel_rfl) (by kernel_rfl)
  obtain ⟨m2, y2, hy2, hs2⟩ := field_at Tryd.underlying23 h 2 _ rfl 2 1 (by kernel_rfl) (by kernel_rfl)
  obtain ⟨m3, y3, hy3, hs3⟩ := field_at Tryd.underlying23 h 3 _ rfl 3 1 (by kernel_rfl) (by kernel_rfl)
  obtain ⟨c0, c1, c2, c3, rfl⟩ := list_4 hl
  have hz0 : DataW.trod enc Tryd.prog W 0 (fun _ => true) true m0 3 [c0] = some y0 := hy0
  obtain ⟨id, h0, q0⟩ := int_cell Tryd.underlying3 hz0
  have hz1 : DataW.trod enc Tryd.prog W 0 (fun _ => true) true m1 3 [c1] = some y1 := hy1
  obtain ⟨ve, h1, q1⟩ := int_cell Tryd.underlying3 hz1
  have hz2 : DataW.trod enc Tryd.prog W 0 (fun _ => true) true m2 3 [c2] = some y2 := hy2
  obtain ⟨rs, h2, q2⟩ := int_cell Tryd.underlying3 hz2
  have hz3 : DataW.trod enc Tryd.prog W 0 (fun _ => true) true m3 3 [c3] = some y3 := hy3
  obtain ⟨rg, h3, q3⟩ := int_cell Tryd.underlying3 hz3
  simp only [List.cons.injEq, and_true] at h0 h1 h2 h3
  obtain rfl := h0
  obtain rfl := h1
  obtain rfl := h2
  obtain rfl := h3
  exact ⟨id, ve, rs, rg, rfl, q0, q1, q2, q3⟩
theorem open_Layout {v : Value} {d : DataW H} {ps : List MemPlace} {r : Reach} {b0 : Nat} (hv : Value.okWide Tryd.prog W r b0 23 v) (h : DataW.Trod enc Tryd.prog W 0 (fun _ => true) true 23 v d ps) :
    ∃ (id : Int) (ve : Int) (rs : Int) (rg : Int), v = .agg #[.int .i64 id, .int .i64 ve, .int .i64 rs, .int .i64 rg] ∧ I64b id ∧ I64b ve ∧ I64b rs ∧ I64b rg := by
  obtain ⟨cs, rfl, hsz⟩ := okWide_struct Tryd.underlying23 hv
  obtain ⟨fuel, hf⟩ := h
  obtain ⟨id, ve, rs, rg, hcs, q0, q1, q2, q3⟩ := cells_Layout (cs := cs.toList) (by rw [Array.length_toList, hsz]; kernel_rfl) hf
  exact ⟨id, ve, rs, rg, by rw [← Array.toArray_toList (xs := cs), hcs], q0, q1, q2, q3⟩

/-- A slice of layouts. -/
def LsIn (W : World) (A : Option Addr) (n cap : Nat) (fs : List Ly) : Prop := LAt W W.heap.size A n fs ∧ n ≤ cap ∧ cap ≤ 9223372036854775807 ∧ ∀ l ∈ fs, l.ok
theorem lays_cell {fuel : Nat} {cs : List Value} {x : DataW H × List MemPlace} (h : DataW.trod enc Tryd.prog W 0 (fun _ => true) true fuel 39 cs = some x) (hlt : ∀ p ∈ x.2, p.block < W.heap.size) :
    ∃ A n c fs, cs = [.slice A n c] ∧ LsIn W A n c fs := by
  obtain ⟨A, n, c, xs, hv, h1, h2, h3, h4⟩ := open_elems (X := Ly) (k := 4) (by decide) Tryd.underlying39 (by kernel_rfl) h hlt (fun ad l => l.ok ∧ W.cell? ad = some (.int .i64 l.a) ∧ W.cell? ⟨ad.block, ad.off + 1, none⟩ = some (.int .i64 l.b) ∧ W.cell? ⟨ad.block, ad.off + 2, none⟩ = some (.int .i64 l.c) ∧ W.cell? ⟨ad.block, ad.off + 3, none⟩ = some (.int .i64 l.d)) (fun ad cs' n y hl hc hy _ => by
    obtain ⟨a, b, c, d, rfl, q1, q2, q3, q4⟩ := cells_Layout hl hy
    refine ⟨⟨a, b, c, d⟩, ⟨q1, q2, q3, q4⟩, ?_, ?_, ?_, ?_⟩
    · have := hc 0 (by decide); rw [addr_z] at this; simpa using this
    · have := hc 1 (by decide); simpa [Addr.add] using this
    · have := hc 2 (by decide); simpa [Addr.add] using this
    · have := hc 3 (by decide); simpa [Addr.add] using this)
  refine ⟨A, n, c, xs, hv, ⟨h1, fun j l hj => ?_⟩, h2, h3, fun l hl => ?_⟩
  · obtain ⟨ad, e, hb, _, r⟩ := h4 j l hj
    exact ⟨ad, e, hb, r⟩
  · obtain ⟨j, hj⟩ := List.getElem?_of_mem hl
    obtain ⟨ad, e, hb, q, _⟩ := h4 j l hj
    exact q

theorem list_14 {α : Type} {l : List α} (h : l.length = 14) : ∃ c0 c1 c2 c3 c4 c5 c6 c7 c8 c9 c10 c11 c12 c13, l = [c0, c1, c2, c3, c4, c5, c6, c7, c8, c9, c10, c11, c12, c13] := by
  match l, h with
  | [c0, c1, c2, c3, c4, c5, c6, c7, c8, c9, c10, c11, c12, c13], _ => exact ⟨c0, c1, c2, c3, c4, c5, c6, c7, c8, c9, c10, c11, c12, c13, rfl⟩
theorem cells_Super {fuel : Nat} {cs : List Value} {x : DataW H × List MemPlace} (hl : cs.length = 14) (h : DataW.trod enc Tryd.prog W 0 (fun _ => true) true fuel 41 cs = some x) (hlt : ∀ p ∈ x.2, p.block < W.heap.size) :
    ∃ (g : Int) (p : Int) (m : Int) (t : Int) (n : Int) (u_id : Int) (u_ve : Int) (u_rs : Int) (u_rg : Int) (h_id : Int) (h_ve : Int) (h_rs : Int) (h_rg : Int) (Af : Option Addr) (nf : Nat) (cf : Nat) (lf : List Ly), cs = [.int .i64 g, .int .i64 p, .int .i64 m, .int .i64 t, .int .i64 n, .int .i64 u_id, .int .i64 u_ve, .int .i64 u_rs, .int .i64 u_rg, .int .i64 h_id, .int .i64 h_ve, .int .i64 h_rs, .int .i64 h_rg, .slice Af nf cf] ∧ I64b g ∧ I64b p ∧ I64b m ∧ I64b t ∧ I64b n ∧ I64b u_id ∧ I64b u_ve ∧ I64b u_rs ∧ I64b u_rg ∧ I64b h_id ∧ I64b h_ve ∧ I64b h_rs ∧ I64b h_rg ∧ LsIn W Af nf cf lf := by
  obtain ⟨m0, y0, hy0, hs0⟩ := field_at Tryd.underlying41 h 0 _ rfl 0 1 (by kernel_rfl) (by kernel_rfl)
  obtain ⟨m1, y1, hy1, hs1⟩ := field_at Tryd.underlying41 h 1 _ rfl 1 1 (by kernel_rfl) (by kernel_rfl)
  obtain ⟨m2, y2, hy2, hs2⟩ := field_at Tryd.underlying41 h 2 _ rfl 2 1 (by kernel_rfl) (by kernel_rfl)
  obtain ⟨m3, y3, hy3, hs3⟩ := field_at Tryd.underlying41 h 3 _ rfl 3 1 (by kernel_rfl) (by kernel_rfl)
  obtain ⟨m4, y4, hy4, hs4⟩ := field_at Tryd.underlying41 h 4 _ rfl 4 1 (by kernel_rfl) (by kernel_rfl)
  obtain ⟨m5, y5, hy5, hs5⟩ := field_at Tryd.underlying41 h 5 _ rfl 5 4 (by kernel_rfl) (by kernel_rfl)
  obtain ⟨m6, y6, hy6, hs6⟩ := field_at Tryd.underlying41 h 6 _ rfl 9 4 (by kernel_rfl) (by kernel_rfl)
  obtain ⟨m7, y7, hy7, hs7⟩ := field_at Tryd.underlying41 h 7 _ rfl 13 1 (by kernel_rfl) (by kernel_rfl)
  obtain ⟨c0, c1, c2, c3, c4, c5, c6, c7, c8, c9, c10, c11, c12, c13, rfl⟩ := list_14 hl
  have hz0 : DataW.trod enc Tryd.prog W 0 (fun _ => true) true m0 3 [c0] = some y0 := hy0
  obtain ⟨g, h0, q0⟩ := int_cell Tryd.underlying3 hz0
  have hz1 : DataW.trod enc Tryd.prog W 0 (fun _ => true) true m1 3 [c1] = some y1 := hy1
  obtain ⟨p, h1, q1⟩ := int_cell Tryd.underlying3 hz1
  have hz2 : DataW.trod enc Tryd.prog W 0 (fun _ => true) true m2 3 [c2] = some y2 := hy2
  obtain ⟨m, h2, q2⟩ := int_cell Tryd.underlying3 hz2
  have hz3 : DataW.trod enc Tryd.prog W 0 (fun _ => true) true m3 3 [c3] = some y3 := hy3
  obtain ⟨t, h3, q3⟩ := int_cell Tryd.underlying3 hz3
  have hz4 : DataW.trod enc Tryd.prog W 0 (fun _ => true) true m4 3 [c4] = some y4 := hy4
  obtain ⟨n, h4, q4⟩ := int_cell Tryd.underlying3 hz4
  have hz5 : DataW.trod enc Tryd.prog W 0 (fun _ => true) true m5 23 [c5, c6, c7, c8] = some y5 := hy5
  obtain ⟨u_id, u_ve, u_rs, u_rg, h5, q5_0, q5_1, q5_2, q5_3⟩ := cells_Layout rfl hz5
  have hz6 : DataW.trod enc Tryd.prog W 0 (fun _ => true) true m6 23 [c9, c10, c11, c12] = some y6 := hy6
  obtain ⟨h_id, h_ve, h_rs, h_rg, h6, q6_0, q6_1, q6_2, q6_3⟩ := cells_Layout rfl hz6
  have hz7 : DataW.trod enc Tryd.prog W 0 (fun _ => true) true m7 39 [c13] = some y7 := hy7
  obtain ⟨Af, nf, cf, lf, h7, q7⟩ := lays_cell hz7 (fun p hp => hlt p (hs7 p hp))
  simp only [List.cons.injEq, and_true] at h0 h1 h2 h3 h4 h5 h6 h7
  obtain rfl := h0
  obtain rfl := h1
  obtain rfl := h2
  obtain rfl := h3
  obtain rfl := h4
  obtain ⟨rfl, rfl, rfl, rfl⟩ := h5
  obtain ⟨rfl, rfl, rfl, rfl⟩ := h6
  obtain rfl := h7
  exact ⟨g, p, m, t, n, u_id, u_ve, u_rs, u_rg, h_id, h_ve, h_rs, h_rg, Af, nf, cf, lf, rfl, q0, q1, q2, q3, q4, q5_0, q5_1, q5_2, q5_3, q6_0, q6_1, q6_2, q6_3, q7⟩
theorem open_Super {v : Value} {d : DataW H} {ps : List MemPlace} {r : Reach} {b0 : Nat} (hv : Value.okWide Tryd.prog W r b0 41 v) (h : DataW.Trod enc Tryd.prog W 0 (fun _ => true) true 41 v d ps) (hlt : ∀ p ∈ ps, p.block < W.heap.size) :
    ∃ (g : Int) (p : Int) (m : Int) (t : Int) (n : Int) (u_id : Int) (u_ve : Int) (u_rs : Int) (u_rg : Int) (h_id : Int) (h_ve : Int) (h_rs : Int) (h_rg : Int) (Af : Option Addr) (nf : Nat) (cf : Nat) (lf : List Ly), v = .agg #[.int .i64 g, .int .i64 p, .int .i64 m, .int .i64 t, .int .i64 n, .int .i64 u_id, .int .i64 u_ve, .int .i64 u_rs, .int .i64 u_rg, .int .i64 h_id, .int .i64 h_ve, .int .i64 h_rs, .int .i64 h_rg, .slice Af nf cf] ∧ I64b g ∧ I64b p ∧ I64b m ∧ I64b t ∧ I64b n ∧ I64b u_id ∧ I64b u_ve ∧ I64b u_rs ∧ I64b u_rg ∧ I64b h_id ∧ I64b h_ve ∧ I64b h_rs ∧ I64b h_rg ∧ LsIn W Af nf cf lf := by
  obtain ⟨cs, rfl, hsz⟩ := okWide_struct Tryd.underlying41 hv
  obtain ⟨fuel, hf⟩ := h
  obtain ⟨g, p, m, t, n, u_id, u_ve, u_rs, u_rg, h_id, h_ve, h_rs, h_rg, Af, nf, cf, lf, hcs, q0, q1, q2, q3, q4, q5, q6, q7, q8, q9, q10, q11, q12, q13⟩ := cells_Super (cs := cs.toList) (by rw [Array.length_toList, hsz]; kernel_rfl) hf hlt
  exact ⟨g, p, m, t, n, u_id, u_ve, u_rs, u_rg, h_id, h_ve, h_rs, h_rg, Af, nf, cf, lf, by rw [← Array.toArray_toList (xs := cs), hcs], q0, q1, q2, q3, q4, q5, q6, q7, q8, q9, q10, q11, q12, q13⟩

end
end Go.Proofs.YthjnbdbbeidhgaaDoor
