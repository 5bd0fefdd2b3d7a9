/- copy into, and clear of, a part of a block of bytes. -/
import Derived.Test.YthgpmnblkhehkaaDoorWireWalks
import Derived.Test.YthgpmnblkhehkaaDoorCells
import Derived.Deep.MidRow
import Derived.Laws.IdiomCopy
namespace Go.Proofs.YthgpmnblkhehkaaDoor
open Go.RowKit

theorem byt_range {w : World} {g o n B : Nat} {bs : List UInt8} (h : Byt w B (some ⟨g, o, none⟩) n bs) : w.rangeAt g o (bytes bs) := fun j v hv => by
  obtain ⟨b, hb, rfl⟩ := bytes_at hv
  have hn : 0 < n := by
    have := (List.getElem?_eq_some_iff.1 hb).1
    rw [h.len] at this
    omega
  obtain ⟨ad, e, _, hc⟩ := h.mem hn
  injection e with e
  subst e
  have := hc j b hb
  rwa [Addr.add_mid] at this
theorem range_byt {w : World} {g o : Nat} {bs : List UInt8} (h : w.rangeAt g o (bytes bs)) : Byt w (g + 1) (some ⟨g, o, none⟩) bs.length bs := ⟨rfl, fun _ => ⟨_, rfl, by simp, fun j b hb => by rw [Addr.add_mid]; exact h j _ (bytes_get hb)⟩⟩
theorem setCells_block (b : Nat) : ∀ (vs : List Value) (o : Nat) (w : World) (k : Nat), k ≠ b → (w.setCells b o vs).heap[k]? = w.heap[k]?
  | [], _, _, _, _ => rfl
  | v :: r, o, w, k, hk => by
    show ((w.setCell ⟨b, o, none⟩ v).setCells b (o + 1) r).heap[k]? = _
    rw [setCells_block b r (o + 1) _ k hk]
    exact Below.heap_setCell _ _ _ _ hk
theorem setCells_rest (b : Nat) : ∀ (vs : List Value) (o : Nat) (w : World), (w.setCells b o vs).os = w.os ∧ (w.setCells b o vs).tape = w.tape ∧ (w.setCells b o vs).output = w.output ∧ (w.setCells b o vs).heap.size = w.heap.size
  | [], _, _ => ⟨rfl, rfl, rfl, rfl⟩
  | v :: r, o, w => by
    obtain ⟨h1, h2, h3, h4⟩ := setCells_rest b r (o + 1) (w.setCell ⟨b, o, none⟩ v)
    exact ⟨h1, h2, h3, h4.trans (by simp [World.setCell])⟩
section
variable {P : Program} {w : World} {t e : TypeId}
theorem run_copy_mid (hu : U8s P t e) (ty : TypeId) (g o n c : Nat) {B : Nat} {A : Option Addr} {m : Nat} (cb : Nat) {bs : List UInt8} (hr : Byt w B A m bs) (hm : m ≤ n) (ht : w.there g o m) :
    (Builtin.copy_ #[t, t] ty #[.slice (some ⟨g, o, none⟩) n c, .slice A m cb]).run P w = .ok (.int .i64 (m : Int)) (w.setCells g o (bytes bs)) := by
  obtain ⟨i, hi, hz, hs, hb⟩ := info_parts hu.info
  have hmin : Nat.min m n = m := Nat.min_eq_left hm
  have hst : (storeCells ⟨g, o, none⟩ (bytes bs)).run P w = .ok () (w.setCells g o (bytes bs)) := by
    have := run_storeCells_cells (P := P) g o (bytes bs) 0 w (fun j hj => by rw [bytes_len, hr.len] at hj; simpa using (ht j hj).1) (fun j hj => by rw [bytes_len, hr.len] at hj; simpa using (ht j hj).2) (fun v hv => by obtain ⟨b, _, rfl⟩ := List.mem_map.1 hv; rfl)
    simpa using this
  rcases A with _ | ad
  · have hm0 : m = 0 := by
      rcases Nat.eq_zero_or_pos m with h0 | h0
      · exact h0
      · obtain ⟨ad, h, _⟩ := hr.mem h0; cases h
    subst hm0
    have hn : bs = [] := List.eq_nil_of_length_eq_zero hr.len
    subst hn
    simp [Builtin.copy_, run_underlying hu.ht, sizeOf, typeInfo, hi, Builtin.lenOf, Builtin.firstCells, storeCells, goInt, bytes, World.setCells]
  · have hl : (Builtin.firstCells i.size m (.slice (some ad) m cb)).run P w = .ok (bytes bs).toArray w := run_firstCells_some w i.size m ad m cb (bytes bs) (by rw [bytes_len, hr.len, hs, Nat.mul_one]) (fun j v hv => by
      obtain ⟨b, hb, rfl⟩ := bytes_at hv
      have hn : 0 < m := by
        have := (List.getElem?_eq_some_iff.1 hb).1
        rw [hr.len] at this
        omega
      obtain ⟨ad', e, _, hc⟩ := hr.mem hn
      injection e with e
      subst e
      exact hc j b hb)
    simp [Builtin.copy_, run_underlying hu.ht, sizeOf, typeInfo, hi, Builtin.lenOf, hmin, hl, hst, goInt]
/-- copy, as the walk meets it. -/
theorem wpList_copy_mid {ops : Array Oper} {rest : List Oper} {op : Oper} {a : Act} {Q : Exit → Act → World → Prop} (hg : op.guard = none) (hu : U8s P t e) (x y : Operand)
    (ho : op.op = .call { callee := .builtin .copy, args := #[x, y], argTypes := #[t, t] }) (g o n c : Nat) {B : Nat} {A : Option Addr} {m cb : Nat} {bs : List UInt8}
    (hx : a.eval x = .slice (some ⟨g, o, none⟩) n c) (hy : a.eval y = .slice A m cb) (hr : Byt w B A m bs) (hm : m ≤ n) (ht : w.there g o m)
    (h : wpList P ops Q rest (a.put op.dst (.int .i64 (m : Int))) (w.setCells g o (bytes bs))) : wpList P ops Q (op :: rest) a w := by
  refine wpList_plain hg fun K hK => ?_
  have hrun := run_copy_mid hu op.type g o n c cb hr hm ht
  unfold Oper.wp execOp
  simp only [ho, resolve, invoke, builtin, Sem.run_bind, Sem.run_pure, Result.andThen_ok, List.map_toArray, List.map_cons, List.map_nil, hx, hy, hrun]
  exact hK _ _ h
theorem step_copy_mid {ops : Array Oper} {op : Oper} {a : Act} {K : Act → World → Prop} {Q : Exit → Act → World → Prop} {E : Prop} (hw : Region.wanted op (yielded ops a.tmps) = true) (hu : U8s P t e) (x y : Operand)
    (ho : op.op = .call { callee := .builtin .copy, args := #[x, y], argTypes := #[t, t] }) (g o n c : Nat) {B : Nat} {A : Option Addr} {m cb : Nat} {bs : List UInt8}
    (hx : a.eval x = .slice (some ⟨g, o, none⟩) n c) (hy : a.eval y = .slice A m cb) (hr : Byt w B A m bs) (hm : m ≤ n) (ht : w.there g o m)
    (h : K (a.put op.dst (.int .i64 (m : Int))) (w.setCells g o (bytes bs))) : if Region.wanted op (yielded ops a.tmps) = true then Oper.wp P op a w K Q else E := by
  rw [if_pos hw]
  have hrun := run_copy_mid hu op.type g o n c cb hr hm ht
  unfold Oper.wp execOp
  simp only [ho, resolve, invoke, builtin, Sem.run_bind, Sem.run_pure, Result.andThen_ok, List.map_toArray, List.map_cons, List.map_nil, hx, hy, hrun]
  exact h
theorem run_clear_mid (hu : U8s P t e) (ty : TypeId) (g o n c : Nat) (hn : 0 < n) (hz0 : (zeroValue e).run P w = .ok (.int .u8 0) w) (ht : w.there g o n) :
    (Builtin.clear_ #[t] ty #[.slice (some ⟨g, o, none⟩) n c]).run P w = .ok (.tuple #[]) (w.setCells g o (bytes (List.replicate n 0))) := by
  have hst : (storeCells ⟨g, o, none⟩ (bytes (List.replicate n 0))).run P w = .ok () (w.setCells g o (bytes (List.replicate n 0))) := by
    have := run_storeCells_cells (P := P) g o (bytes (List.replicate n 0)) 0 w (fun j hj => by rw [bytes_len, List.length_replicate] at hj; simpa using (ht j hj).1) (fun j hj => by rw [bytes_len, List.length_replicate] at hj; simpa using (ht j hj).2) (fun v hv => by obtain ⟨b, _, rfl⟩ := List.mem_map.1 hv; rfl)
    simpa using this
  have hzc : (Builtin.zeroCells (Value.int .u8 0).cells n).toList = bytes (List.replicate n 0) := by
    simp [Builtin.zeroCells, bytes, Value.cells, Nat.mod_one]
    rw [List.map_const', List.length_range]
  obtain ⟨n', rfl⟩ : ∃ k, n = k + 1 := ⟨n - 1, by omega⟩
  simp only [Builtin.clear_, List.getElem?_toArray, List.getElem?_cons_zero, Sem.run_bind, run_underlying hu.ht, Result.andThen_ok, hz0, hzc, hst, Sem.run_pure]
theorem wpList_clear_mid {ops : Array Oper} {rest : List Oper} {op : Oper} {a : Act} {Q : Exit → Act → World → Prop} (hg : op.guard = none) (hu : U8s P t e) (x : Operand)
    (ho : op.op = .call { callee := .builtin .clear, args := #[x], argTypes := #[t] }) (g o n c : Nat) (hx : a.eval x = .slice (some ⟨g, o, none⟩) n c) (hn : 0 < n) (hz0 : (zeroValue e).run P w = .ok (.int .u8 0) w) (ht : w.there g o n)
    (h : wpList P ops Q rest (a.put op.dst (.tuple #[])) (w.setCells g o (bytes (List.replicate n 0)))) : wpList P ops Q (op :: rest) a w := by
  refine wpList_plain hg fun K hK => ?_
  have hrun := run_clear_mid hu op.type g o n c hn hz0 ht
  unfold Oper.wp execOp
  simp only [ho, resolve, invoke, builtin, Sem.run_bind, Sem.run_pure, Result.andThen_ok, List.map_toArray, List.map_cons, List.map_nil, hx, hrun]
  exact hK _ _ h
end
end Go.Proofs.YthgpmnblkhehkaaDoor
