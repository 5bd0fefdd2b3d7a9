/- An array of four bytes by value, among the arguments. -/
import Derived.Test.YtmbelomekihdkaaDoorShell
import Derived.OpenShut
namespace Go.Proofs.YtmbelomekihdkaaDoor
open Go.ChangeShapes Go.WideShapes Go.ChangeAt Go.RowKit

theorem open_arr4 {H : Type} {enc : TypeId × Value → H} {P : Program} {t e : TypeId} {W : World} {v : Value} {d : DataW H} {ps : List MemPlace} {r : Reach} {b0 : Nat}
    (ht : P.underlying t = some (.array 4 e)) (he : P.underlying e = some (.int .u8)) (hc : P.cellsOf e = 1) (hct : P.cellsOf t = 4)
    (hv : Value.okWide P W r b0 t v) (h : DataW.Trod enc P W 0 (fun _ => true) true t v d ps) :
    ∃ x0 x1 x2 x3 : UInt8, v = .agg #[.int .u8 (x0.toNat : Int), .int .u8 (x1.toNat : Int), .int .u8 (x2.toNat : Int), .int .u8 (x3.toNat : Int)] := by
  have hs : ∃ cs, v = .agg cs ∧ cs.size = P.cellsOf t := by
    simp only [Value.okWide, ht] at hv
    obtain ⟨cs, h1, h2, _⟩ := hv
    exact ⟨cs, h1, h2⟩
  obtain ⟨cs, rfl, hsz⟩ := hs
  obtain ⟨l⟩ := cs
  match l, hsz.trans hct with
  | [c0, c1, c2, c3], _ =>
    obtain ⟨fuel, hf⟩ := h
    obtain ⟨xs, m, _, _, _, hlen, hg⟩ := DataW.trod_array ht hf
    have one : ∀ (i : Nat) (c : Value), i < 4 → (([c0, c1, c2, c3].drop i).take 1 = [c]) → ∃ x : UInt8, c = .int .u8 (x.toNat : Int) := by
      intro i c hi hci
      have h1 := hg i hi
      rw [hc, Nat.mul_one] at h1
      have hx : xs[i]? = some (xs[i]'(by omega)) := List.getElem?_eq_getElem (by omega)
      rw [hx] at h1
      have h2 : (Value.agg #[c0, c1, c2, c3]).cells.toList = [c0, c1, c2, c3] := rfl
      have h3 : DataW.trod enc P W 0 (fun _ => true) true m e [c] = some (xs[i]'(by omega)) := by rw [← hci, ← h1]; rfl
      obtain ⟨z, hz, _, hw⟩ := DataW.trod_int he h3
      have hb := u8_of_wf hw
      simp only [List.cons.injEq, and_true] at hz
      refine ⟨UInt8.ofNat z.toNat, ?_⟩
      rw [hz]
      congr 1
      simp
      omega
    obtain ⟨x0, rfl⟩ := one 0 c0 (by decide) rfl
    obtain ⟨x1, rfl⟩ := one 1 c1 (by decide) rfl
    obtain ⟨x2, rfl⟩ := one 2 c2 (by decide) rfl
    obtain ⟨x3, rfl⟩ := one 3 c3 (by decide) rfl
    exact ⟨x0, x1, x2, x3, rfl⟩
end Go.Proofs.YtmbelomekihdkaaDoor
