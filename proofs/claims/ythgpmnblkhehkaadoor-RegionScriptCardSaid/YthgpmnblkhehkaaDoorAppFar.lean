/- append to a row of the call's own: what else there is stays as it is. -/
import Derived.Test.YthgpmnblkhehkaaDoorApp
namespace Go.Proofs.YthgpmnblkhehkaaDoor
open Go.RowKit
section
variable {P : Program} {w w' : World} {base n : Nat} {t e : TypeId} {v : Value} {bs : List UInt8}
theorem run_append_far (hu : U8s P t e) (ty : TypeId) (hown : Own w base e v n bs) {B : Nat} {A : Option Addr} {m : Nat} (c : Nat) {news : List UInt8} (hr : Byt w B A m news)
    (h47 : n + m ≤ 140737488355328) (hbase : base ≤ w.heap.size) :
    ∃ A' c' w', (Builtin.append_ #[t, t] ty #[v, .slice A m c]).run P w = .ok (.slice A' (n + m) c') w' ∧ Own w' base e (.slice A' (n + m) c') (n + m) (bs ++ news) ∧ w.grownBy w' v.ownBlock := by
  obtain ⟨i, hi, hz, hs, hb⟩ := info_parts hu.info
  have fin : ∀ v' w', (Builtin.append_ #[t, t] ty #[v, .slice A m c]).run P w = .ok v' w' → Own w' base e v' (n + m) (bs ++ news) → w.grownBy w' v.ownBlock →
      ∃ A' c' w', (Builtin.append_ #[t, t] ty #[v, .slice A m c]).run P w = .ok (.slice A' (n + m) c') w' ∧ Own w' base e (.slice A' (n + m) c') (n + m) (bs ++ news) ∧ w.grownBy w' v.ownBlock := by
    intro v' w' h1 h2 h3
    obtain ⟨A', c', rfl, _⟩ := h2.form
    exact ⟨A', c', w', h1, h2, h3⟩
  rcases A with _ | ad
  · have hm : m = 0 := by
      rcases Nat.eq_zero_or_pos m with h0 | h0
      · exact h0
      · obtain ⟨ad, h, _⟩ := hr.mem h0
        cases h
    subst hm
    have hn : news = [] := List.eq_nil_of_length_eq_zero hr.len
    subst hn
    refine fin v w ?_ (by simpa using hown) (World.grownBy.refl w _)
    rcases hown.2 with ⟨rfl, rfl⟩ | ⟨g, cap, cur, rfl, _, _, hnc, _⟩
    · simp [Builtin.append_, run_underlying hu.ht, sizeOf, typeInfo, hi, Builtin.lenOf, Builtin.firstCells]
    · simp [Builtin.append_, run_underlying hu.ht, sizeOf, typeInfo, hi, Builtin.lenOf, Builtin.firstCells, hnc, storeCells]
  · have hcells : ∀ j u, (bytes news)[j]? = some u → w.cell? (ad.add j) = some u := by
      intro j u hu
      obtain ⟨b, hb, rfl⟩ := bytes_at hu
      rcases Nat.eq_zero_or_pos m with h0 | h0
      · subst h0
        have hn : news = [] := List.eq_nil_of_length_eq_zero hr.len
        subst hn
        simp at hb
      · obtain ⟨ad', h, _, hc⟩ := hr.mem h0
        injection h with h
        subst h
        exact hc j b hb
    obtain ⟨v', w', hrun, h2, h3, _, _⟩ := run_append_own_at (P := P) w base t ty e i _ 1 1 hu.ht hi hz hs hb rfl (by decide) v n (bytes bs) hown ad m c (bytes news) (by rw [bytes_len, hr.len]; omega) hcells
      (fun u hu => by obtain ⟨b, _, rfl⟩ := List.mem_map.1 hu; rfl) (by simp only [maxLen]; omega) (by omega) hbase
    exact fin v' w' hrun (by unfold Own; rw [bytes_app]; exact h2) h3

/-- append, in a region that draws its order: the world, but for the row itself, is as it was. -/
theorem step_append_far {ops : Array Oper} {o : Oper} {a : Act} {K : Act → World → Prop} {Q : Exit → Act → World → Prop} {E : Prop} (hw : Region.wanted o (yielded ops a.tmps) = true) (hu : U8s P t e) (s x : Operand)
    (ho : o.op = .call { callee := .builtin .append, args := #[s, x], argTypes := #[t, t] })
    (hs : a.eval s = v) (hown : Own w base e v n bs) {B : Nat} {A : Option Addr} {m c : Nat} {news : List UInt8} (hx : a.eval x = .slice A m c) (hr : Byt w B A m news)
    (h47 : n + m ≤ 140737488355328) (hbase : base ≤ w.heap.size)
    (h : ∀ A' c' w', Own w' base e (.slice A' (n + m) c') (n + m) (bs ++ news) → w.grownBy w' v.ownBlock → K (a.put o.dst (.slice A' (n + m) c')) w') :
    if Region.wanted o (yielded ops a.tmps) = true then Oper.wp P o a w K Q else E := by
  rw [if_pos hw]
  obtain ⟨A', c', w', hrun, h2, h3⟩ := run_append_far hu o.type hown c hr h47 hbase
  unfold Oper.wp execOp
  simp only [ho, resolve, invoke, builtin, Sem.run_bind, Sem.run_pure, Result.andThen_ok, List.map_toArray, List.map_cons, List.map_nil, hs, hx, hrun]
  exact h A' c' w' h2 h3
/-- A block that is not the row's own. -/
theorem grown_far {w w' : World} {base n : Nat} {e : TypeId} {v : Value} {bs : List UInt8} {u : World} (h : w.grownBy w' v.ownBlock) (hown : Own u base e v n bs) : ∀ b o, u.heap.size ≤ b → b < w.heap.size → w'.cell? ⟨b, o, none⟩ = w.cell? ⟨b, o, none⟩ ∧ w'.frozen? ⟨b, o, none⟩ = w.frozen? ⟨b, o, none⟩ := fun b o h1 h2 => by
  have hb := h.block b h2 (fun e => by have := hown.lt e.symm; omega)
  exact ⟨World.cell?_of_block hb, World.frozen?_of_block hb⟩
end
end Go.Proofs.YthgpmnblkhehkaaDoor
