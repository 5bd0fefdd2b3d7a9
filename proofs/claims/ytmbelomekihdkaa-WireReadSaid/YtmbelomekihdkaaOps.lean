/- A slice of structs of two numbers, among the arguments. -/
import Derived.Test.YtmbelomekihdkaaLay
import Derived.Test.YtmbelomekihdkaaWireRead40
import Derived.Deep.Slices
namespace Go.Proofs.Ytmbelomekihdkaa
open Go.ChangeShapes Go.WideShapes Go.ChangeAt Go.RowKit Go.Deep

theorem add_one (a : Addr) : a.add 1 = ⟨a.block, a.off + 1, none⟩ := by unfold Addr.add; rw [if_neg (by decide)]

theorem open_ops {H : Type} {enc : TypeId × Value → H} {W : World} {v : Value} {d : DataW H} {ps : List MemPlace} {r : Reach} {b0 : Nat}
    (hv : Value.okWide Try.prog W r b0 46 v) (h : DataW.Trod enc Try.prog W 0 (fun _ => true) true 46 v d ps) (hlt : ∀ p ∈ ps, p.block < W.heap.size) :
    ∃ (A : Option Addr) (n cap : Nat) (f : Nat → Int × Int), v = .slice A n cap ∧ OpsAt W W.heap.size A n f ∧ n ≤ cap ∧ cap ≤ 9223372036854775807 := by
  obtain ⟨a0, len, cap, rfl⟩ := okWide_slice Try.underlying46 hv
  obtain ⟨fuel, hf⟩ := h
  have c2 : Try.prog.cellsOf 48 = 2 := by kernel_rfl
  rcases open_slice Try.underlying46 hf with ⟨hcs, _⟩ | ⟨a, len', cap', m, k, D, Pl, hcs, _, hl, hm, hmm, hx, hi⟩
  · simp [Value.cells] at hcs
    obtain ⟨rfl, rfl, rfl⟩ := hcs
    exact ⟨none, 0, 0, fun _ => (0, 0), rfl, fun i hi => absurd hi (by omega), by omega, by omega⟩
  · simp [Value.cells] at hcs
    obtain ⟨rfl, rfl, rfl⟩ := hcs
    simp only [if_true] at hmm
    have each : ∀ i, i < m → ∃ q : Int × Int, W.cell? (a.add (i * 2)) = some (.int .i64 q.1) ∧ W.cell? ⟨(a.add (i * 2)).block, (a.add (i * 2)).off + 1, none⟩ = some (.int .i64 q.2) ∧ -9223372036854775808 ≤ q.2 ∧ q.2 ≤ 9223372036854775807 := by
      intro i him
      obtain ⟨cs', hc, ht'⟩ := hi i him
      rw [c2] at hc
      obtain ⟨_, hcl, hat⟩ := World.cells?_some hc
      obtain ⟨x, hx1, _⟩ := int_at Try.underlying48 ht' 0 _ rfl Try.underlying3 (by kernel_rfl)
      obtain ⟨y, hy1, hy2⟩ := int_at Try.underlying48 ht' 1 _ rfl Try.underlying3 (by kernel_rfl)
      have h0 := hat 0 (by omega)
      have h1 := hat 1 (by omega)
      refine ⟨(x, y), ?_, ?_, hy2⟩
      · have e : (a.add (i * 2)).add 0 = a.add (i * 2) := by unfold Addr.add; simp
        rw [e] at h0
        exact h0.trans hx1
      · rw [add_one] at h1
        exact h1.trans hy1
    refine ⟨some a, len, cap, fun i => if h : i < m then (each i h).choose else (0, 0), rfl, fun i hi' => ?_, hl, by unfold maxLen at hm; omega⟩
    have him : i < m := by omega
    refine ⟨a, rfl, ?_, ?_⟩
    · simp only [Prod.mk.injEq] at hx
      obtain ⟨_, rfl⟩ := hx
      exact hlt (.cell a.block a.off) (List.mem_append_left _ (MemPlace.mem_row.2 ⟨0, by rw [c2]; omega, by simp⟩))
    · simp only [him, dif_pos]
      exact (each i him).choose_spec
end Go.Proofs.Ytmbelomekihdkaa
