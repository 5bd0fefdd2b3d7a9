/- A slice of records among the arguments. -/
import Derived.Test.YtecmopfaeopmdaaDoorOpenPack
import Derived.Test.YtecmopfaeopmdaaDoorOpenEl
import Derived.Test.YtecmopfaeopmdaaDoorRecs
import Derived.Test.YtecmopfaeopmdaaDoorVec
namespace Go.Proofs.YtecmopfaeopmdaaDoor
open Go.ChangeShapes Go.WideShapes Go.ChangeAt Go.RowKit

section
variable {H : Type} {enc : TypeId × Value → H} {W : World}
/-- The cells of a record, read at an address. -/
theorem rec_at {n : Nat} {ad : Addr} {cs' : List Value} {y : DataW H × List MemPlace} (hl : cs'.length = 4) (hc : ∀ j, j < 4 → W.cell? (ad.add j) = cs'[j]?) (hy : DataW.trod enc Tryd.prog W 0 (fun _ => true) true n 33 cs' = some y)
    (hlt : ∀ p ∈ y.2, p.block < W.heap.size) : ∃ r : Rc, RcAt W W.heap.size ad r := by
  obtain ⟨ki, Ak, nk, ck, bk, Av, nv, cv, bv, ex, rfl, q1, q2, q3, q4⟩ := cells_Record hl hy hlt
  refine ⟨⟨ki, Ak, nk, ck, bk, Av, nv, cv, bv, ex⟩, ?_, ?_, ?_, ?_, q2.1, q3.1, q1, q4, q2.2.1, q2.2.2, q3.2.1, q3.2.2⟩
  · have := hc 0 (by decide); rw [addr_z] at this; simpa using this
  · have := hc 1 (by decide); simpa [Addr.add] using this
  · have := hc 2 (by decide); simpa [Addr.add] using this
  · have := hc 3 (by decide); simpa [Addr.add] using this
theorem open_recs {v : Value} {d : DataW H} {ps : List MemPlace} {r : Reach} {b0 : Nat} (hv : Value.okWide Tryd.prog W r b0 43 v) (h : DataW.Trod enc Tryd.prog W 0 (fun _ => true) true 43 v d ps) (hlt : ∀ p ∈ ps, p.block < W.heap.size) :
    ∃ (A : Option Addr) (n cap : Nat) (rs : List Rc), v = .slice A n cap ∧ RAt W W.heap.size A n rs ∧ n ≤ cap ∧ cap ≤ 9223372036854775807 := by
  obtain ⟨A, n, c, xs, hv, h1, h2, h3, h4⟩ := open_elems_arg (X := Rc) (by decide) Tryd.underlying43 (by kernel_rfl) hv h hlt (fun ad r => RcAt W W.heap.size ad r) (fun ad cs' n y hl hc hy hp => rec_at hl hc hy hp)
  exact ⟨A, n, c, xs, hv, ⟨h1, h4⟩, h2, h3⟩
theorem BoolsIn.vat {A : Option Addr} {n c : Nat} {bs : List Bool} (h : BoolsIn W A n c bs) : Vat W W.heap.size A n (bs.map Value.bool) := ⟨by rw [List.length_map]; exact h.1, fun j x hj => by
  rw [List.getElem?_map] at hj
  obtain ⟨b, hb, rfl⟩ := Option.map_eq_some_iff.1 hj
  exact h.2.2.2 j b hb⟩
end
end Go.Proofs.YtecmopfaeopmdaaDoor
