/- Reading numbers one after the other from a reader in a captured variable; words for a record's block. -/
import Derived.Test.YthjnbdbbeidhgaaDoorReader2
namespace Go.Proofs.YthjnbdbbeidhgaaDoor
open Go.RowKit

theorem cells_of_below {W w1 : World} {B : Nat} (hb : Below B W w1) : (∀ b o, b < B → w1.cell? ⟨b, o, none⟩ = W.cell? ⟨b, o, none⟩) ∧ (∀ b o, b < B → w1.frozen? ⟨b, o, none⟩ = W.frozen? ⟨b, o, none⟩) :=
  ⟨fun b o h => hb.cell (p := ⟨b, o, none⟩) h, fun b o h => hb.frozen (p := ⟨b, o, none⟩) h⟩

/-- Block c holds the reader g, which is at place k of p; since w0 only g has changed. -/
structure RS (w0 w : World) (g c : Nat) (p : List UInt8) (k : Nat) : Prop where
  rdr : Rdr w g (p.drop k) false
  ptr : w.cell? ⟨c, 0, none⟩ = some (.pointer (some ⟨g, 0, none⟩))
  grown : w0.grownBy w (some g)
  size : w.heap.size = w0.heap.size
  ne : c ≠ g
  lt : c < w0.heap.size
theorem RS.next {w0 w w' : World} {g c k k' : Nat} {p : List UInt8} (h : RS w0 w g c p k) (hr : Rdr w' g (p.drop k') false) (hg : w.grownBy w' (some g)) (hs : w'.heap.size = w.heap.size) : RS w0 w' g c p k' :=
  ⟨hr, (World.cell?_of_block (hg.block c (by have := h.size; have := h.lt; omega) (fun e => h.ne (Option.some.inj e)))).trans h.ptr, only_trans h.grown hg, hs.trans h.size, h.ne, h.lt⟩

theorem take_lt {p : List UInt8} {k m : Nat} (h6 : m ≤ 6) : num ((p.drop k).take m) < 281474976710656 := by
  have h1 := num_lt ((p.drop k).take m)
  have h2 : ((p.drop k).take m).length ≤ 6 := by rw [List.length_take]; omega
  have h3 : 256 ^ ((p.drop k).take m).length ≤ 256 ^ 6 := Nat.pow_le_pow_right (by decide) h2
  have h4 : (256 : Nat) ^ 6 = 281474976710656 := by decide
  omega
theorem take_lt1 {p : List UInt8} {k : Nat} : num ((p.drop k).take 1) < 256 := by
  have h1 := num_lt ((p.drop k).take 1)
  have h2 : ((p.drop k).take 1).length ≤ 1 := by rw [List.length_take]; omega
  have h3 : 256 ^ ((p.drop k).take 1).length ≤ 256 ^ 1 := Nat.pow_le_pow_right (by decide) h2
  omega
theorem cut_cut (b : List UInt8) (k m : Nat) (h : k + m ≤ 11) : (((b.drop 1).take 11).drop k).take m = (b.drop (k + 1)).take m := by
  rw [List.drop_take, List.take_take, List.drop_drop, Nat.min_eq_left (by omega), Nat.add_comm 1 k]

theorem Own.keepIn {w w2 : World} {base n : Nat} {e : TypeId} {v : Value} {bs : List UInt8} (h : Own w base e v n bs) (hk : ∀ b, base ≤ b → b < w.heap.size → w2.heap[b]? = w.heap[b]?) : Own w2 base e v n bs := by
  refine ⟨h.1, ?_⟩
  rcases h.2 with h0 | ⟨g, cap, cur, rfl, hbase, hh, r⟩
  · exact .inl h0
  · exact .inr ⟨g, cap, cur, rfl, hbase, (hk g hbase (h.lt rfl)).trans hh, r⟩

end Go.Proofs.YthjnbdbbeidhgaaDoor
