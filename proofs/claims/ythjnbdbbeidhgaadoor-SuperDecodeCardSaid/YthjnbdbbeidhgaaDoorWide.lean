/- Append of elements of several cells, onto a row of the call's own. -/
import Derived.Test.YthjnbdbbeidhgaaDoorVec
import Derived.Test.YthjnbdbbeidhgaaDoorLayouts
namespace Go.Proofs.YthjnbdbbeidhgaaDoor
open Go.RowKit

structure Wide (P : Program) (t e : TypeId) (z : Value) (s k : Nat) : Prop where
  ht : P.underlying t = some (.slice e)
  info : (P.info? e).map (fun i => (i.zero, i.size, i.bytes)) = some (some z, s, k)
  cells : z.cells.size = s
  pos : 0 < s
  small : k ≤ 1000
theorem wide_parts {P : Program} {e : TypeId} {z : Value} {s k : Nat} (h : (P.info? e).map (fun i => (i.zero, i.size, i.bytes)) = some (some z, s, k)) : ∃ i, P.info? e = some i ∧ i.zero = some z ∧ i.size = s ∧ i.bytes = k := by
  cases hi : P.info? e with
  | none => rw [hi] at h; simp at h
  | some i =>
    rw [hi] at h
    simp at h
    exact ⟨i, rfl, h.1, h.2.1, h.2.2⟩
theorem row_keep {w w' : World} {base n s : Nat} {e : TypeId} {v : Value} {xs : List Value} (h : w.ownsRow base e s v n xs) (hb : ∀ g, v.ownBlock = some g → w'.heap[g]? = w.heap[g]?) : w'.ownsRow base e s v n xs := by
  refine ⟨h.1, ?_⟩
  rcases h.2 with h0 | ⟨g, cap, cur, rfl, hbase, hh, r⟩
  · exact .inl h0
  · exact .inr ⟨g, cap, cur, rfl, hbase, (hb g rfl).trans hh, r⟩
theorem row_lit (w : World) (cs : Array Value) (e : TypeId) (s n base : Nat) (xs : List Value) (h : cs.toList = xs) (hl : xs.length = n * s) (hn : n ≤ 1000) (hb : base ≤ w.heap.size) :
    (w.alloc (.cells cs e)).ownsRow base e s (.slice (some ⟨w.heap.size, 0, none⟩) n n) n xs := by
  have hs : cs.size = n * s := by rw [← hl, ← h, Array.length_toList]
  exact ⟨hl, .inr ⟨w.heap.size, n, cs, rfl, hb, heap_alloc_new w _, Nat.le_refl _, by unfold maxLen; omega, hs, by rw [h, ← hl, List.take_length]⟩⟩
theorem cells_add {w : World} {g : Nat} {l : List Value} (h : Cells w g l) : ∀ j u, l[j]? = some u → w.cell? ((⟨g, 0, none⟩ : Addr).add j) = some u := fun j u hj => by
  have h1 := h j u hj
  by_cases h0 : j = 0
  · subst h0; simpa [Addr.add] using h1
  · simpa [Addr.add, h0] using h1
theorem add_cells {w : World} {g : Nat} {l : List Value} (h : ∀ j u, l[j]? = some u → w.cell? ((⟨g, 0, none⟩ : Addr).add j) = some u) : Cells w g l := fun j u hj => by
  have h1 := h j u hj
  by_cases h0 : j = 0
  · subst h0; simpa [Addr.add] using h1
  · simpa [Addr.add, h0] using h1

section
variable {P : Program} {t e : TypeId} {z v : Value} {s k n base : Nat} {w : World} {xs : List Value}
theorem run_append_wide (hu : Wide P t e z s k) (ty : TypeId) (hown : w.ownsRow base e s v n xs) {ad : Addr} {m : Nat} (c : Nat) {news : List Value} (hl : news.length = m * s) (hr : ∀ j u, news[j]? = some u → w.cell? (ad.add j) = some u)
    (h1 : ∀ u ∈ news, u.oneCell' = true) (h47 : n + m ≤ 1000000000) (hm : 0 < n + m) (hbase : base ≤ w.heap.size) :
    ∃ g c' w', (Builtin.append_ #[t, t] ty #[v, .slice (some ad) m c]).run P w = .ok (.slice (some ⟨g, 0, none⟩) (n + m) c') w' ∧ w'.ownsRow base e s (.slice (some ⟨g, 0, none⟩) (n + m) c') (n + m) (xs ++ news) ∧ w.grownBy w' v.ownBlock ∧
      base ≤ g ∧ g < w'.heap.size ∧ n + m ≤ c' ∧ c' ≤ 9223372036854775807 := by
  obtain ⟨i, hi, hz, hs, hb⟩ := wide_parts hu.info
  have hm47 : (n + m) * k ≤ 140737488355328 := Nat.le_trans (Nat.mul_le_mul h47 hu.small) (by decide)
  obtain ⟨v', w', hrun, h2, h3, _, _⟩ := run_append_own_at (P := P) w base t ty e i z s k hu.ht hi hz hs hb hu.cells hu.pos v n xs hown ad m c news hl hr h1 (by simp only [maxLen]; omega) hm47 hbase
  obtain ⟨g, cap, rfl, hg1, hg2⟩ := World.ownsRow.form h2 hm
  refine ⟨g, cap, w', hrun, h2, h3, hg1, hg2, ?_⟩
  rcases h2.2 with ⟨h0, _⟩ | ⟨g', cap', cur, hv, _, _, q1, q2, _⟩
  · cases h0
  · injection hv with _ _ hv
    subst hv
    unfold maxLen at q2
    exact ⟨q1, by omega⟩
theorem step_append_wide {ops : Array Oper} {o : Oper} {a : Act} {K : Act → World → Prop} {Q : Exit → Act → World → Prop} {E : Prop} (hw : Region.wanted o (yielded ops a.tmps) = true) (hu : Wide P t e z s k) (so x : Operand)
    (ho : o.op = .call { callee := .builtin .append, args := #[so, x], argTypes := #[t, t] })
    (hs : a.eval so = v) (hown : w.ownsRow base e s v n xs) {ad : Addr} {m c : Nat} {news : List Value} (hx : a.eval x = .slice (some ad) m c) (hl : news.length = m * s) (hr : ∀ j u, news[j]? = some u → w.cell? (ad.add j) = some u)
    (h1 : ∀ u ∈ news, u.oneCell' = true) (h47 : n + m ≤ 1000000000) (hm : 0 < n + m) (hbase : base ≤ w.heap.size)
    (h : ∀ g c' w', w'.ownsRow base e s (.slice (some ⟨g, 0, none⟩) (n + m) c') (n + m) (xs ++ news) → w.grownBy w' v.ownBlock → base ≤ g → g < w'.heap.size → n + m ≤ c' → c' ≤ 9223372036854775807 → K (a.put o.dst (.slice (some ⟨g, 0, none⟩) (n + m) c')) w') :
    if Region.wanted o (yielded ops a.tmps) = true then Oper.wp P o a w K Q else E := by
  rw [if_pos hw]
  obtain ⟨g, c', w', hrun, h2, h3, h4, h5, h6, h7⟩ := run_append_wide hu o.type hown c hl hr h1 h47 hm hbase
  unfold Oper.wp execOp
  simp only [ho, resolve, invoke, builtin, Sem.run_bind, Sem.run_pure, Result.andThen_ok, List.map_toArray, List.map_cons, List.map_nil, hs, hx, hrun]
  exact h g c' w' h2 h3 h4 h5 h6 h7
end
theorem layw : Wide Tryd.prog 39 23 (.agg #[.int .i64 0, .int .i64 0, .int .i64 0, .int .i64 0]) 4 32 := ⟨Tryd.underlying39, by kernel_rfl, rfl, by decide, by decide⟩
end Go.Proofs.YthjnbdbbeidhgaaDoor
