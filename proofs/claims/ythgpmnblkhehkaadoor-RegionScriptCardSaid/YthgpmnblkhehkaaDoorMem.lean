/- Words for memory: a slice of bytes that reads as a list; what is kept. -/
import Derived.Below
import Derived.Laws.OwnMore
import Derived.Deep.Draws
import Derived.Deep.AppendLies
import Derived.Lib.Hide
import Derived.Laws.Rows
namespace Go.Proofs.YthgpmnblkhehkaaDoor
open Go.RowKit

theorem addr_block (a : Addr) (n : Nat) : (a.add n).block = a.block := by unfold Addr.add; split <;> rfl
theorem addr_add (a : Addr) (i j : Nat) : (a.add i).add j = a.add (i + j) := by
  unfold Addr.add
  by_cases hi : i = 0 <;> by_cases hj : j = 0 <;> simp [hi, hj, Nat.add_assoc]

/-- Bytes as cells. -/
def bytes (l : List UInt8) : List Value := l.map fun b => .int .u8 (b.toNat : Int)
theorem bytes_len (l : List UInt8) : (bytes l).length = l.length := by simp [bytes]
theorem bytes_app (a b : List UInt8) : bytes (a ++ b) = bytes a ++ bytes b := by simp [bytes]
theorem bytes_at {l : List UInt8} {j : Nat} {u : Value} (h : (bytes l)[j]? = some u) : ∃ b, l[j]? = some b ∧ u = .int .u8 (b.toNat : Int) := by
  simp only [bytes, List.getElem?_map, Option.map_eq_some_iff] at h
  obtain ⟨b, hb, rfl⟩ := h
  exact ⟨b, hb, rfl⟩
theorem bytes_get {l : List UInt8} {j : Nat} {b : UInt8} (h : l[j]? = some b) : (bytes l)[j]? = some (.int .u8 (b.toNat : Int)) := by simp [bytes, h]

/-- The slice value '.slice A n c' reads as the bytes bs, all of it in blocks below B. -/
structure Byt (w : World) (B : Nat) (A : Option Addr) (n : Nat) (bs : List UInt8) : Prop where
  len : bs.length = n
  mem : 0 < n → ∃ ad, A = some ad ∧ ad.block < B ∧ ∀ j b, bs[j]? = some b → w.cell? (ad.add j) = some (.int .u8 (b.toNat : Int))

section
variable {w w' : World} {B B' n : Nat} {A : Option Addr} {bs : List UInt8}

theorem Byt.nil (w : World) (B : Nat) (A : Option Addr) : Byt w B A 0 [] := ⟨rfl, fun h => absurd h (by omega)⟩
theorem Byt.get {k : Nat} (h : Byt w B A n bs) (hk : k < n) : ∃ ad b, A = some ad ∧ ad.block < B ∧ bs[k]? = some b ∧ w.cell? (ad.add k) = some (.int .u8 (b.toNat : Int)) := by
  obtain ⟨ad, e, hb, hc⟩ := h.mem (by omega)
  have hl : k < bs.length := by have := h.len; omega
  exact ⟨ad, bs[k], e, hb, List.getElem?_eq_getElem hl, hc k _ (List.getElem?_eq_getElem hl)⟩
theorem Byt.keep (h : Byt w B A n bs) (hk : ∀ p : Addr, p.block < B → w'.cell? p = w.cell? p) : Byt w' B A n bs :=
  ⟨h.len, fun hn => by
    obtain ⟨ad, e, hb, hc⟩ := h.mem hn
    exact ⟨ad, e, hb, fun j u hu => (hk _ (by rw [addr_block]; exact hb)).trans (hc j u hu)⟩⟩
theorem Byt.more (h : Byt w B A n bs) (hB : B ≤ B') : Byt w B' A n bs :=
  ⟨h.len, fun hn => by
    obtain ⟨ad, e, hb, hc⟩ := h.mem hn
    exact ⟨ad, e, by omega, hc⟩⟩
theorem Byt.below (h : Byt w B A n bs) (hb : Below B w w') : Byt w' B A n bs := h.keep fun _ hp => hb.cell hp
theorem Byt.belowBy {C : Nat} (h : Byt w B A n bs) (hb : Below C w w') (hC : B ≤ C) : Byt w' B A n bs := h.keep fun _ hp => hb.cell (by omega)
theorem Byt.drewN (h : Byt w B A n bs) (k : Nat) : Byt (w.drewN k) B A n bs := ⟨h.len, h.mem⟩
theorem Byt.drew (h : Byt w B A n bs) : Byt w.drew B A n bs := ⟨h.len, h.mem⟩
theorem Byt.alloc (h : Byt w B A n bs) (hB : B ≤ w.heap.size) (o : Obj) : Byt (w.alloc o) B A n bs := h.keep fun p hp => World.cell?_alloc_lt w o p (by omega)
theorem Byt.setCell (h : Byt w B A n bs) {p : Addr} (hB : B ≤ p.block) (u : Value) : Byt (w.setCell p u) B A n bs :=
  h.keep fun q hq => World.cell?_setCell_other w p q u (fun e => by subst e; omega)
theorem Byt.take {k : Nat} (h : Byt w B A n bs) (hk : k ≤ n) : Byt w B A k (bs.take k) :=
  ⟨by rw [List.length_take, h.len]; omega, fun hk0 => by
    obtain ⟨ad, e, hb, hc⟩ := h.mem (by omega)
    refine ⟨ad, e, hb, fun j u hu => hc j u ?_⟩
    rw [List.getElem?_take] at hu
    split at hu
    · exact hu
    · cases hu⟩
theorem Byt.cut {k cap : Nat} (h : Byt w B A n bs) (hk : k ≤ n) (hc : n ≤ cap) : Byt w B (if cap = k then A else A.map (·.add k)) (n - k) (bs.drop k) :=
  ⟨by rw [List.length_drop, h.len], fun hn => by
    obtain ⟨ad, rfl, hb, hcell⟩ := h.mem (by omega)
    rw [if_neg (by omega)]
    refine ⟨ad.add k, rfl, by rw [addr_block]; exact hb, fun j u hu => ?_⟩
    rw [addr_add]
    exact hcell _ u (by rw [← hu, List.getElem?_drop])⟩
theorem Byt.new (w : World) (cs : Array Value) (e : TypeId) (fr : Nat × Nat) (l : List UInt8) (h : cs.toList = bytes l) : Byt (w.alloc (.cells cs e fr)) (w.heap.size + 1) (some ⟨w.heap.size, 0, none⟩) l.length l := by
  refine ⟨rfl, fun hn => ⟨_, rfl, by simp, fun j b hb => ?_⟩⟩
  have e1 : (Addr.add ⟨w.heap.size, 0, none⟩ j) = ⟨w.heap.size, j, none⟩ := by unfold Addr.add; split <;> simp_all
  rw [e1]
  have e2 : (w.alloc (.cells cs e fr)).heap[w.heap.size]? = some (.cells cs e fr) := heap_alloc_new w _
  rw [cell_of_row _ _ _ _ _ _ e2, ← Array.getElem?_toList, h]
  exact bytes_get hb
theorem Byt.of_own {base : Nat} {e : TypeId} {c : Nat} (h : w.ownsRow base e 1 (.slice A n c) n (bytes bs)) : Byt w w.heap.size A n bs := by
  refine ⟨by have := h.1; rw [bytes_len] at this; omega, fun hn => ?_⟩
  obtain ⟨g, cap, hv, _, hlt⟩ := h.form hn
  have hA : A = some ⟨g, 0, none⟩ := by injection hv
  subst hA
  exact ⟨_, rfl, hlt, fun j b hb => h.cells (g := g) rfl j _ (bytes_get hb)⟩
end
end Go.Proofs.YthgpmnblkhehkaaDoor
