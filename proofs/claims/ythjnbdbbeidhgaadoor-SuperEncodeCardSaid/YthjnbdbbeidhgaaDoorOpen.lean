/- Structs by value among the arguments: what a field's cells hold. -/
import Derived.Test.YthjnbdbbeidhgaaDoorShell
import Derived.ChangeArms
import Derived.OpenShut
namespace Go.Proofs.YthjnbdbbeidhgaaDoor
open Go.ChangeShapes Go.WideShapes Go.ChangeAt Go.RowKit

section
variable {H : Type} {enc : TypeId × Value → H} {P : Program} {W : World} {fuel : Nat} {t e : TypeId} {fs : Array Field} {cs : List Value} {x : DataW H × List MemPlace}

/-- Bounds of an int. -/
def I64b (n : Int) : Prop := -9223372036854775808 ≤ n ∧ n ≤ 9223372036854775807
/-- A slice of bytes that came in. -/
def BytIn (W : World) (A : Option Addr) (n cap : Nat) (bs : List UInt8) : Prop := Byt W W.heap.size A n bs ∧ n ≤ cap ∧ cap ≤ 9223372036854775807

/-- A struct's field, as it is read. -/
theorem field_at (ht : P.underlying t = some (.struct fs)) (h : DataW.trod enc P W 0 (fun _ => true) true fuel t cs = some x) (i : Nat) (f : Field) (hf : fs[i]? = some f) (o k : Nat) (ho : f.offset = o) (hk : P.cellsOf f.type = k) :
    ∃ n y, DataW.trod enc P W 0 (fun _ => true) true n f.type ((cs.drop o).take k) = some y ∧ ∀ p ∈ y.2, p ∈ x.2 := by
  subst ho hk
  obtain ⟨xs, n, _, hx, _, hlen, hg⟩ := DataW.trod_struct ht h
  have hil : i < fs.size := (Array.getElem?_eq_some_iff.1 hf).1
  have hxi : xs[i]? = some (xs[i]'(by omega)) := List.getElem?_eq_getElem (by omega)
  refine ⟨n, _, (hg i f hf).trans hxi, fun p hp => ?_⟩
  rw [hx]
  exact List.mem_flatMap.2 ⟨_, List.getElem_mem _, hp⟩

theorem int_cell (ht : P.underlying t = some (.int .i64)) (h : DataW.trod enc P W 0 (fun _ => true) true fuel t cs = some x) : ∃ n, cs = [.int .i64 n] ∧ I64b n := by
  obtain ⟨z, hz, _, hw⟩ := DataW.trod_int ht h
  exact ⟨z, hz, i64_of_wf hw⟩
theorem bool_cell (ht : P.underlying t = some .bool) (h : DataW.trod enc P W 0 (fun _ => true) true fuel t cs = some x) : ∃ b, cs = [.bool b] := by
  obtain ⟨b, hb, _⟩ := DataW.trod_bool ht h
  exact ⟨b, hb⟩
theorem bytes_cell (ht : P.underlying t = some (.slice e)) (he : P.underlying e = some (.int .u8)) (hc : P.cellsOf e = 1)
    (h : DataW.trod enc P W 0 (fun _ => true) true fuel t cs = some x) (hlt : ∀ p ∈ x.2, p.block < W.heap.size) :
    ∃ (A : Option Addr) (n cap : Nat) (bs : List UInt8), cs = [.slice A n cap] ∧ BytIn W A n cap bs := by
  rcases open_ints ht he hc h with ⟨hcs, _⟩ | ⟨a, len, cap, zs, hcs, _, hl, hm, hz, hx, hcell, hwz⟩
  · exact ⟨none, 0, 0, [], hcs, Byt.nil _ _ _, by omega, by omega⟩
  · simp only [if_true] at hz
    refine ⟨some a, len, cap, (zs.take len).map fun z => UInt8.ofNat z.toNat, hcs, ⟨by simp; omega, fun hn => ⟨a, rfl, ?_, ?_⟩⟩, hl, by unfold maxLen at hm; omega⟩
    · rw [hx] at hlt
      exact hlt (.cell a.block a.off) (MemPlace.mem_row.2 ⟨0, by omega, by simp⟩)
    · intro j b hj
      simp only [List.getElem?_map, Option.map_eq_some_iff, List.getElem?_take] at hj
      obtain ⟨z, hz1, rfl⟩ := hj
      split at hz1
      · rename_i hjl
        have hjz : j < zs.length := by omega
        have hcj := hcell j hjz
        have hzj : zs.getD j 0 = z := by simp [List.getD, hz1]
        rw [hzj] at hcj
        have hw := u8_of_wf (hwz z (List.mem_of_getElem? hz1))
        rw [hcj]
        congr 2
        simp
        omega
      · cases hz1
/-- An array of four bytes. -/
theorem arr4_cell (ht : P.underlying t = some (.array 4 e)) (he : P.underlying e = some (.int .u8)) (hc : P.cellsOf e = 1) (hl : cs.length = 4)
    (h : DataW.trod enc P W 0 (fun _ => true) true fuel t cs = some x) :
    ∃ x0 x1 x2 x3 : UInt8, cs = [.int .u8 (x0.toNat : Int), .int .u8 (x1.toNat : Int), .int .u8 (x2.toNat : Int), .int .u8 (x3.toNat : Int)] := by
  match cs, hl with
  | [c0, c1, c2, c3], _ =>
    obtain ⟨xs, m, _, _, _, hlen, hg⟩ := DataW.trod_array ht h
    have one : ∀ (i : Nat) (c : Value), i < 4 → (([c0, c1, c2, c3].drop i).take 1 = [c]) → ∃ x : UInt8, c = .int .u8 (x.toNat : Int) := by
      intro i c hi hci
      have h1 := hg i hi
      rw [hc, Nat.mul_one] at h1
      have hx : xs[i]? = some (xs[i]'(by omega)) := List.getElem?_eq_getElem (by omega)
      rw [hx, hci] at h1
      obtain ⟨z, hz, _, hw⟩ := DataW.trod_int he h1
      have hb := u8_of_wf hw
      simp only [List.cons.injEq, and_true] at hz
      refine ⟨UInt8.ofNat z.toNat, ?_⟩
      rw [hz]
      congr 1
      simp
      omega
    obtain ⟨x0, rfl⟩ := one 0 c0 (by decide) rfl
    obtain ⟨x1, rfl⟩ := one 1 c1 (by decide) rfl
    obtain ⟨x2, rfl⟩ := one 2 c2 (by decide) rfl
    obtain ⟨x3, rfl⟩ := one 3 c3 (by decide) rfl
    exact ⟨x0, x1, x2, x3, rfl⟩
end
end Go.Proofs.YthjnbdbbeidhgaaDoor
