/- append to a row of the call's own: what the old slice reads stays. -/
import Derived.Test.YtecmopfaeopmdaaDoorApp
namespace Go.Proofs.YtecmopfaeopmdaaDoor
open Go.RowKit

set_option maxHeartbeats 400000 in
theorem append_grow {P : Program} {w w' : World} {t e ty : TypeId} {v' : Value} (hu : U8s P t e) (g n c m c' : Nat) (ad : Addr) (bs news : List UInt8) (hc : c < n + m) (hbs : bs.length = n) (hns : news.length = m)
    (hb1 : ∀ j u, (bytes bs)[j]? = some u → w.cell? ((⟨g, 0, none⟩ : Addr).add j) = some u) (hb2 : ∀ j u, (bytes news)[j]? = some u → w.cell? (ad.add j) = some u)
    (h : (Builtin.append_ #[t, t] ty #[.slice (some ⟨g, 0, none⟩) n c, .slice (some ad) m c']).run P w = .ok v' w') : ∀ b, b < w.heap.size → w'.heap[b]? = w.heap[b]? := by
  obtain ⟨i, hi, hz, hs, hb⟩ := info_parts hu.info
  have hn : ¬ n + m ≤ c := by omega
  have f1 : (Builtin.firstCells 1 n (.slice (some ⟨g, 0, none⟩) n c)).run P w = .ok (bytes bs).toArray w := run_firstCells_some w 1 n ⟨g, 0, none⟩ n c (bytes bs) (by rw [bytes_len, hbs]; omega) hb1
  have f1' : (Builtin.firstCells 1 n (.slice (some ⟨g, 0, none⟩) n c)).run P w.drew = .ok (bytes bs).toArray w.drew := run_firstCells_some w.drew 1 n ⟨g, 0, none⟩ n c (bytes bs) (by rw [bytes_len, hbs]; omega) hb1
  have f2 : (Builtin.firstCells 1 m (.slice (some ad) m c')).run P w = .ok (bytes news).toArray w := run_firstCells_some w 1 m ad m c' (bytes news) (by rw [bytes_len, hns]; omega) hb2
  have f2' : (Builtin.firstCells 1 m (.slice (some ad) m c')).run P w.drew = .ok (bytes news).toArray w.drew := run_firstCells_some w.drew 1 m ad m c' (bytes news) (by rw [bytes_len, hns]; omega) hb2
  simp [Builtin.append_, run_underlying hu.ht, sizeOf, typeInfo, hi, hs, hb, Builtin.lenOf, hn, zeroValue, hz, newRow, f1, f1', f2, f2'] at h
  split at h
  · exfalso
    revert h
    generalize (Builtin.mayShare 1 n m (some { block := g, off := 0 }) (Value.slice (some ad) m c')).run P w = q
    intro h
    cases q <;> simp [Result.andThen] at h
  · split at h
    · simp only [Result.ok.injEq] at h
      intro b hb'
      rw [← h.2]
      exact Below.heap_alloc _ _ _ hb'
    · simp only [Result.ok.injEq] at h
      intro b hb'
      rw [← h.2]
      exact Below.heap_alloc w.drew _ _ hb'

set_option maxHeartbeats 400000 in
theorem append_fits {P : Program} {w w' : World} {t e ty : TypeId} {v' : Value} (hu : U8s P t e) (g n c m c' : Nat) (ad : Addr) (news : List UInt8) (hc : n + m ≤ c) (hns : news.length = m)
    (hb2 : ∀ j u, (bytes news)[j]? = some u → w.cell? (ad.add j) = some u)
    (h : (Builtin.append_ #[t, t] ty #[.slice (some ⟨g, 0, none⟩) n c, .slice (some ad) m c']).run P w = .ok v' w') : v' = .slice (some ⟨g, 0, none⟩) (n + m) c := by
  obtain ⟨i, hi, hz, hs, hb⟩ := info_parts hu.info
  have f2 : (Builtin.firstCells 1 m (.slice (some ad) m c')).run P w = .ok (bytes news).toArray w := run_firstCells_some w 1 m ad m c' (bytes news) (by rw [bytes_len, hns]; omega) hb2
  simp [Builtin.append_, run_underlying hu.ht, sizeOf, typeInfo, hi, hs, Builtin.lenOf, hc, f2] at h
  revert h
  generalize (storeCells ((⟨g, 0, none⟩ : Addr).add n) (bytes news)).run P w = q
  intro h
  cases q with
  | ok a w2 => simp [Result.andThen] at h; exact h.1.symm
  | halt x w2 => simp [Result.andThen] at h

/-- append: the old slice reads as before. -/
theorem run_append_keep {P : Program} {w : World} {base n c : Nat} {t e : TypeId} {bs : List UInt8} {g : Nat} (hu : U8s P t e) (ty : TypeId) (hown : Own w base e (.slice (some ⟨g, 0, none⟩) n c) n bs) {B : Nat} {ad : Addr} {m : Nat} (c' : Nat) {news : List UInt8} (hr : Byt w B (some ad) m news) (hm : 0 < m)
    (h47 : n + m ≤ 140737488355328) (hbase : base ≤ w.heap.size) :
    ∃ A' c2 w', (Builtin.append_ #[t, t] ty #[.slice (some ⟨g, 0, none⟩) n c, .slice (some ad) m c']).run P w = .ok (.slice A' (n + m) c2) w' ∧ Own w' base e (.slice A' (n + m) c2) (n + m) (bs ++ news) ∧ Below base w w' ∧ Byt w' w'.heap.size (some ⟨g, 0, none⟩) n bs := by
  obtain ⟨A', c2, w', hrun, h2, h3⟩ := run_append_byt hu ty hown c' hr h47 hbase
  have hb2 : ∀ j u, (bytes news)[j]? = some u → w.cell? (ad.add j) = some u := by
    intro j u hj
    obtain ⟨b, hb, rfl⟩ := bytes_at hj
    obtain ⟨ad', h, _, hc⟩ := hr.mem hm
    injection h with h
    subst h
    exact hc j b hb
  refine ⟨A', c2, w', hrun, h2, h3, ?_⟩
  by_cases hc : n + m ≤ c
  · have hv := append_fits hu g n c m c' ad news hc hr.len hb2 hrun
    injection hv with hA
    subst hA
    have := h2.byt.take (k := n) (by omega)
    rwa [List.take_append_of_le_length (by rw [hown.len]; exact Nat.le_refl _), List.take_of_length_le (by rw [hown.len]; exact Nat.le_refl _)] at this
  · have hb := append_grow hu g n c m c' ad bs news (by omega) hown.len hr.len (fun j u hj => by
      obtain ⟨b, hb, rfl⟩ := bytes_at hj
      have hj' : j < n := by rw [← hown.len]; exact (List.getElem?_eq_some_iff.1 hb).1
      obtain ⟨b', hb', hc', _⟩ := hown.at_ j hj'
      rw [hb] at hb'
      injection hb' with hb'
      subst hb'
      have e1 : (⟨g, 0, none⟩ : Addr).add j = ⟨g, j, none⟩ := by unfold Addr.add; split <;> simp_all
      rw [e1]
      exact hc') hb2 hrun
    exact (hown.byt.keep fun p hp => World.cell?_of_block (hb p.block hp)).more (by
      rcases Nat.lt_or_ge w'.heap.size w.heap.size with h | h
      · rcases Nat.eq_zero_or_pos n with h0 | h0
        · exact absurd (hb (w.heap.size - 1) (by omega)) (by
            rw [Array.getElem?_eq_none (by omega)]
            intro e
            have := Array.getElem?_eq_none_iff.1 e.symm
            omega)
        · exact absurd (hb (w.heap.size - 1) (by omega)) (by
            rw [Array.getElem?_eq_none (by omega)]
            intro e
            have := Array.getElem?_eq_none_iff.1 e.symm
            omega)
      · exact h)

theorem wpList_append_keep {P : Program} {w : World} {base n c g : Nat} {t e : TypeId} {bs : List UInt8} {ops : Array Oper} {rest : List Oper} {o : Oper} {a : Act} {Q : Exit → Act → World → Prop} (hw : Region.wanted o (yielded ops a.tmps) = true) (hu : U8s P t e) (s x : Operand)
    (ho : o.op = .call { callee := .builtin .append, args := #[s, x], argTypes := #[t, t] })
    (hs : a.eval s = .slice (some ⟨g, 0, none⟩) n c) (hown : Own w base e (.slice (some ⟨g, 0, none⟩) n c) n bs) {B : Nat} {ad : Addr} {m c' : Nat} {news : List UInt8} (hx : a.eval x = .slice (some ad) m c') (hr : Byt w B (some ad) m news) (hm : 0 < m)
    (h47 : n + m ≤ 140737488355328) (hbase : base ≤ w.heap.size)
    (h : ∀ A' c2 w', Own w' base e (.slice A' (n + m) c2) (n + m) (bs ++ news) → Below base w w' → Byt w' w'.heap.size (some ⟨g, 0, none⟩) n bs → wpList P ops Q rest (a.put o.dst (.slice A' (n + m) c2)) w') : wpList P ops Q (o :: rest) a w :=
  wpList_step fun K hK => by
    rw [if_pos hw]
    obtain ⟨A', c2, w', hrun, h2, h3, h4⟩ := run_append_keep hu o.type hown c' hr hm h47 hbase
    unfold Oper.wp execOp
    simp only [ho, resolve, invoke, builtin, Sem.run_bind, Sem.run_pure, Result.andThen_ok, List.map_toArray, List.map_cons, List.map_nil, hs, hx, hrun]
    exact hK _ _ (h A' c2 w' h2 h3 h4)
end Go.Proofs.YtecmopfaeopmdaaDoor
