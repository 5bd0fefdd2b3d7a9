/- Structs of integers by value among the arguments: a layout; a struct that holds a layout. -/
import Derived.Test.YtmbelomekihdkaaShell
import Derived.ChangeArms
namespace Go.Proofs.Ytmbelomekihdkaa
open Go.ChangeShapes Go.WideShapes Go.ChangeAt Go.RowKit

section
variable {H : Type} {enc : TypeId × Value → H} {P : Program} {W : World} {base fuel : Nat} {sp : Nat → Bool} {held : Bool} {t : TypeId} {fs : Array Field} {cs : List Value} {x : DataW H × List MemPlace}

/-- A struct's field that is an int64. -/
theorem int_at (ht : P.underlying t = some (.struct fs)) (h : DataW.trod enc P W base sp held fuel t cs = some x) (i : Nat) (f : Field) (hf : fs[i]? = some f) (hi : P.underlying f.type = some (.int .i64)) (hc : P.cellsOf f.type = 1) :
    ∃ n, cs[f.offset]? = some (.int .i64 n) ∧ -9223372036854775808 ≤ n ∧ n ≤ 9223372036854775807 := by
  obtain ⟨xs, n, _, _, _, hlen, hg⟩ := DataW.trod_struct ht h
  have h1 := hg i f hf
  have hil : i < fs.size := (Array.getElem?_eq_some_iff.1 hf).1
  have hx : xs[i]? = some (xs[i]'(by omega)) := List.getElem?_eq_getElem (by omega)
  rw [hx, hc] at h1
  obtain ⟨z, hz, _, hw⟩ := DataW.trod_int hi h1
  refine ⟨z, ?_, i64_of_wf hw⟩
  have : ((cs.drop f.offset).take 1)[0]? = some (.int .i64 z) := by rw [hz]; rfl
  simpa [List.getElem?_take, List.getElem?_drop] using this

/-- A struct's field that is a struct. -/
theorem sub_at (ht : P.underlying t = some (.struct fs)) (h : DataW.trod enc P W base sp held fuel t cs = some x) (i : Nat) (f : Field) (hf : fs[i]? = some f) :
    ∃ n y, DataW.trod enc P W base sp held n f.type ((cs.drop f.offset).take (P.cellsOf f.type)) = some y := by
  obtain ⟨xs, n, _, _, _, hlen, hg⟩ := DataW.trod_struct ht h
  have hil : i < fs.size := (Array.getElem?_eq_some_iff.1 hf).1
  have hx : xs[i]? = some (xs[i]'(by omega)) := List.getElem?_eq_getElem (by omega)
  exact ⟨n, _, (hg i f hf).trans hx⟩
end

section
variable {H : Type} {enc : TypeId × Value → H} {W : World} {base fuel : Nat} {sp : Nat → Bool} {held : Bool}

/-- A layout's cells. -/
theorem layout_cells {cs : List Value} {x : DataW H × List MemPlace} (hl : cs.length = 4) (h : DataW.trod enc Try.prog W base sp held fuel 23 cs = some x) :
    ∃ a b c d : Int, cs = [.int .i64 a, .int .i64 b, .int .i64 c, .int .i64 d] ∧ (-9223372036854775808 ≤ a ∧ a ≤ 9223372036854775807) ∧ (-9223372036854775808 ≤ b ∧ b ≤ 9223372036854775807) ∧ (-9223372036854775808 ≤ c ∧ c ≤ 9223372036854775807) ∧ (-9223372036854775808 ≤ d ∧ d ≤ 9223372036854775807) := by
  obtain ⟨a, ha, ba⟩ := int_at Try.underlying23 h 0 _ rfl Try.underlying3 (by kernel_rfl)
  obtain ⟨b, hb, bb⟩ := int_at Try.underlying23 h 1 _ rfl Try.underlying3 (by kernel_rfl)
  obtain ⟨c, hc, bc⟩ := int_at Try.underlying23 h 2 _ rfl Try.underlying3 (by kernel_rfl)
  obtain ⟨d, hd, bd⟩ := int_at Try.underlying23 h 3 _ rfl Try.underlying3 (by kernel_rfl)
  match cs, hl with
  | [c0, c1, c2, c3], _ =>
    simp at ha hb hc hd
    exact ⟨a, b, c, d, by rw [ha, hb, hc, hd], ba, bb, bc, bd⟩

theorem cellsLayout : Try.prog.cellsOf 23 = 4 := by kernel_rfl

theorem open_layout {v : Value} {d : DataW H} {ps : List MemPlace} {r : Reach} {b0 : Nat} (hv : Value.okWide Try.prog W r b0 23 v) (h : DataW.Trod enc Try.prog W base sp held 23 v d ps) :
    ∃ a b c d : Int, v = .agg #[.int .i64 a, .int .i64 b, .int .i64 c, .int .i64 d] ∧ (-9223372036854775808 ≤ a ∧ a ≤ 9223372036854775807) ∧ (-9223372036854775808 ≤ b ∧ b ≤ 9223372036854775807) ∧ (-9223372036854775808 ≤ c ∧ c ≤ 9223372036854775807) ∧ (-9223372036854775808 ≤ d ∧ d ≤ 9223372036854775807) := by
  obtain ⟨cs, rfl, hsz⟩ := okWide_struct Try.underlying23 hv
  obtain ⟨fuel, hf⟩ := h
  obtain ⟨a, b, c, d, hcs, q⟩ := layout_cells (cs := cs.toList) (by rw [Array.length_toList, hsz]; exact cellsLayout) hf
  exact ⟨a, b, c, d, by rw [← Array.toArray_toList (xs := cs), hcs], q⟩

theorem open_target {v : Value} {d : DataW H} {ps : List MemPlace} {r : Reach} {b0 : Nat} (hv : Value.okWide Try.prog W r b0 25 v) (h : DataW.Trod enc Try.prog W base sp held 25 v d ps) :
    ∃ a b c d s rs rg : Int, v = .agg #[.int .i64 a, .int .i64 b, .int .i64 c, .int .i64 d, .int .i64 s, .int .i64 rs, .int .i64 rg] ∧ (-9223372036854775808 ≤ a ∧ a ≤ 9223372036854775807) ∧ (-9223372036854775808 ≤ b ∧ b ≤ 9223372036854775807) ∧ (-9223372036854775808 ≤ c ∧ c ≤ 9223372036854775807) ∧ (-9223372036854775808 ≤ d ∧ d ≤ 9223372036854775807) ∧ (-9223372036854775808 ≤ rs ∧ rs ≤ 9223372036854775807) ∧ (-9223372036854775808 ≤ rg ∧ rg ≤ 9223372036854775807) := by
  obtain ⟨cs, rfl, hsz⟩ := okWide_struct Try.underlying25 hv
  obtain ⟨fuel, hf⟩ := h
  have hl : cs.toList.length = 7 := by rw [Array.length_toList, hsz]; kernel_rfl
  have hf' : DataW.trod enc Try.prog W base sp held fuel 25 cs.toList = some (d, ps) := hf
  obtain ⟨m, y, hy⟩ := sub_at Try.underlying25 hf' 0 _ rfl
  obtain ⟨s, hs, _⟩ := int_at Try.underlying25 hf' 1 _ rfl Try.underlying3 (by kernel_rfl)
  obtain ⟨rs, hrs, brs⟩ := int_at Try.underlying25 hf' 2 _ rfl Try.underlying3 (by kernel_rfl)
  obtain ⟨rg, hrg, brg⟩ := int_at Try.underlying25 hf' 3 _ rfl Try.underlying3 (by kernel_rfl)
  obtain ⟨l⟩ := cs
  match l, hl with
  | [c0, c1, c2, c3, c4, c5, c6], _ =>
    have hy' : DataW.trod enc Try.prog W base sp held m 23 [c0, c1, c2, c3] = some y := by
      have hy2 : DataW.trod enc Try.prog W base sp held m 23 (([c0, c1, c2, c3, c4, c5, c6].drop 0).take (Try.prog.cellsOf 23)) = some y := hy
      rw [cellsLayout] at hy2
      exact hy2
    obtain ⟨a, b, c, d, hcs, ba, bb, bc, bd⟩ := layout_cells rfl hy'
    simp at hcs hs hrs hrg
    obtain ⟨rfl, rfl, rfl, rfl⟩ := hcs
    exact ⟨a, b, c, d, s, rs, rg, by rw [hs, hrs, hrg], ba, bb, bc, bd, brs, brg⟩
end
end Go.Proofs.Ytmbelomekihdkaa
