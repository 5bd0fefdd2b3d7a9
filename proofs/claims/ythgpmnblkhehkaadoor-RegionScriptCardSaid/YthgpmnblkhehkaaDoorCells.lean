/- Blocks that hold values, one behind the other; what changes two rows alone. -/
import Derived.Test.YthgpmnblkhehkaaDoorAppFar
namespace Go.Proofs.YthgpmnblkhehkaaDoor
open Go.RowKit

/-- A block that holds these values, one behind the other. -/
def Cells (w : World) (g : Nat) (l : List Value) : Prop := ∀ j x, l[j]? = some x → w.cell? ⟨g, j, none⟩ = some x
theorem Cells.below {w w' : World} {g B : Nat} {l : List Value} (h : Cells w g l) (hb : Below B w w') (hg : g < B) : Cells w' g l := fun j x hj => (hb.cell (by exact hg)).trans (h j x hj)
theorem Cells.new (w : World) (ty : TypeId) (cs : Array Value) : Cells (w.alloc (.cells cs ty)) w.heap.size cs.toList := fun j x hj => by
  have h := heap_alloc_new w (.cells cs ty)
  have hj' : cs[j]? = some x := by rw [← Array.getElem?_toList]; exact hj
  have hj1 : cs[j]? = some x := by rw [← Array.getElem?_toList]; exact hj
  exact (cell_of_row _ _ j cs ty _ (heap_alloc_new w (.cells cs ty))).trans hj1
theorem Cells.same {w w' : World} {g : Nat} {l : List Value} (h : Cells w g l) (hb : w'.heap[g]? = w.heap[g]?) : Cells w' g l := fun j x hj => (World.cell?_of_block (a := ⟨g, j, none⟩) hb).trans (h j x hj)
theorem Cells.set {w : World} {g : Nat} {l : List Value} (h : Cells w g l) (o : Nat) (u : Value) : Cells (w.setCell ⟨g, o, none⟩ u) g (l.set o u) := fun j x hj => by
  rw [List.getElem?_set] at hj
  by_cases e : o = j
  · subst e
    rw [if_pos rfl] at hj
    split at hj
    · cases hj
      rename_i hlt
      exact World.cell?_setCell_same _ _ _ (h o _ (List.getElem?_eq_getElem hlt))
    · cases hj
  · rw [if_neg e] at hj
    exact (World.cell?_setCell_other _ _ _ _ (fun e' => by injection e'; omega)).trans (h j x hj)
theorem Cells.lt {w : World} {g : Nat} {l : List Value} {x : Value} (h : Cells w g (x :: l)) : g < w.heap.size := by
  have h0 := h 0 x rfl
  rcases Nat.lt_or_ge g w.heap.size with hlt | hge
  · exact hlt
  · simp [World.cell?, Array.getElem?_eq_none hge] at h0
/-- No cell of the block is frozen. -/
def Soft (w : World) (g : Nat) : Prop := ∀ j, w.frozen? ⟨g, j, none⟩ = false
theorem Soft.same {w w' : World} {g : Nat} (h : Soft w g) (hb : w'.heap[g]? = w.heap[g]?) : Soft w' g := fun j => (World.frozen?_of_block (a := ⟨g, j, none⟩) hb).trans (h j)
theorem Soft.new (w : World) (ty : TypeId) (cs : Array Value) : Soft (w.alloc (.cells cs ty)) w.heap.size := fun j => frozen_of_row _ _ j _ _ (heap_alloc_new w _)
theorem Soft.set {w : World} {g : Nat} (h : Soft w g) (a : Addr) (u : Value) : Soft (w.setCell a u) g := fun j => by rw [World.frozen?_setCell]; exact h j

/-- Of what there was, block p and the row r alone may have turned. -/
structure Far (w w' : World) (p : Nat) (r : Option Nat) : Prop where
  os : w'.os = w.os
  tape : w'.tape = w.tape
  output : w'.output = w.output
  size : w.heap.size ≤ w'.heap.size
  block : ∀ k, k < w.heap.size → k ≠ p → some k ≠ r → w'.heap[k]? = w.heap[k]?
section
variable {w w' w'' : World} {p B : Nat} {r : Option Nat}
theorem Far.below (h : Far w w' p r) (hB : B ≤ p) (hr : ∀ k, r = some k → B ≤ k) (hs : B ≤ w.heap.size) : Below B w w' :=
  ⟨h.os, h.tape, h.output, h.size, fun k hk => h.block k (by omega) (by omega) (fun e => by have := hr k e.symm; omega)⟩
theorem Far.of_below (h : Below w.heap.size w w') (p : Nat) (r : Option Nat) : Far w w' p r := ⟨h.os, h.tape, h.output, h.size, fun k hk _ _ => h.block k hk⟩
theorem Far.grown (h : Far w w' p r) (hg : w'.grownBy w'' r) : Far w w'' p r :=
  ⟨hg.os.trans h.os, hg.tape.trans h.tape, hg.output.trans h.output, Nat.le_trans h.size hg.size, fun k hk h1 h2 => (hg.block k (Nat.lt_of_lt_of_le hk h.size) h2).trans (h.block k hk h1 h2)⟩
theorem Far.set (h : Far w w' p r) (o : Nat) (u : Value) : Far w (w'.setCell ⟨p, o, none⟩ u) p r :=
  ⟨h.os, h.tape, h.output, by simp [World.setCell]; exact h.size, fun k hk h1 h2 => (Below.heap_setCell _ _ _ _ h1).trans (h.block k hk h1 h2)⟩
theorem Far.later (h : Far w w' p r) (hb : Below w'.heap.size w' w'') : Far w w'' p r :=
  ⟨hb.os.trans h.os, hb.tape.trans h.tape, hb.output.trans h.output, Nat.le_trans h.size hb.size, fun k hk h1 h2 => (hb.block k (Nat.lt_of_lt_of_le hk h.size)).trans (h.block k hk h1 h2)⟩
end

section
variable {P : Program} {w w' : World} {base n : Nat} {t e : TypeId} {v : Value} {bs : List UInt8}
theorem Own.set {g o : Nat} (h : Own w base e v n bs) (hg : g < base) (u : Value) : Own (w.setCell ⟨g, o, none⟩ u) base e v n bs := ownsRow_setCell_below h hg u
/-- append, as the walk meets it: the world, but for the row itself, is as it was. -/
theorem wpList_append_far {ops : Array Oper} {rest : List Oper} {o : Oper} {a : Act} {Q : Exit → Act → World → Prop} (hw : Region.wanted o (yielded ops a.tmps) = true) (hu : U8s P t e) (s x : Operand)
    (ho : o.op = .call { callee := .builtin .append, args := #[s, x], argTypes := #[t, t] })
    (hs : a.eval s = v) (hown : Own w base e v n bs) {B : Nat} {A : Option Addr} {m c : Nat} {news : List UInt8} (hx : a.eval x = .slice A m c) (hr : Byt w B A m news)
    (h47 : n + m ≤ 140737488355328) (hbase : base ≤ w.heap.size)
    (h : ∀ A' c' w', Own w' base e (.slice A' (n + m) c') (n + m) (bs ++ news) → w.grownBy w' v.ownBlock → wpList P ops Q rest (a.put o.dst (.slice A' (n + m) c')) w') : wpList P ops Q (o :: rest) a w :=
  wpList_step fun _ hK => step_append_far hw hu s x ho hs hown hx hr h47 hbase fun A' c' w' h2 h3 => hK _ _ (h A' c' w' h2 h3)
end
end Go.Proofs.YthgpmnblkhehkaaDoor
