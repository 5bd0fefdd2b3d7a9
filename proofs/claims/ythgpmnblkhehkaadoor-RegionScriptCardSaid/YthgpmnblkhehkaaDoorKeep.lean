/- What a call leaves as it was, but for some blocks. -/
import Derived.Test.YthgpmnblkhehkaaDoorVec
namespace Go.Proofs.YthgpmnblkhehkaaDoor
open Go.RowKit

/-- Of what there was, the blocks L alone may have turned. -/
structure Keep (w w' : World) (L : Nat → Prop) : Prop where
  os : w'.os = w.os
  tape : w'.tape = w.tape
  output : w'.output = w.output
  size : w.heap.size ≤ w'.heap.size
  block : ∀ k, k < w.heap.size → ¬ L k → w'.heap[k]? = w.heap[k]?
section
variable {w w' w'' : World} {L L' : Nat → Prop} {p B : Nat} {r : Option Nat}
theorem Keep.refl (w : World) (L : Nat → Prop) : Keep w w L := ⟨rfl, rfl, rfl, Nat.le_refl _, fun _ _ _ => rfl⟩
theorem Keep.far (h : Keep w w' L) (hf : Far w' w'' p r) (hp : L p ∨ w.heap.size ≤ p) (hr : ∀ g, r = some g → L g ∨ w.heap.size ≤ g) : Keep w w'' L :=
  ⟨hf.os.trans h.os, hf.tape.trans h.tape, hf.output.trans h.output, Nat.le_trans h.size hf.size, fun k hk hn => (hf.block k (Nat.lt_of_lt_of_le hk h.size)
    (fun e => by subst e; rcases hp with hp | hp; exact hn hp; omega) (fun e => by rcases hr k e.symm with hp | hp; exact hn hp; omega)).trans (h.block k hk hn)⟩
theorem Keep.row (h : Keep w w' L) (hg : w'.grownBy w'' r) (hr : ∀ g, r = some g → L g ∨ w.heap.size ≤ g) : Keep w w'' L :=
  ⟨hg.os.trans h.os, hg.tape.trans h.tape, hg.output.trans h.output, Nat.le_trans h.size hg.size, fun k hk hn => (hg.block k (Nat.lt_of_lt_of_le hk h.size)
    (fun e => by rcases hr k e.symm with hp | hp; exact hn hp; omega)).trans (h.block k hk hn)⟩
theorem Keep.later (h : Keep w w' L) (hb : Below w'.heap.size w' w'') : Keep w w'' L :=
  ⟨hb.os.trans h.os, hb.tape.trans h.tape, hb.output.trans h.output, Nat.le_trans h.size hb.size, fun k hk hn => (hb.block k (Nat.lt_of_lt_of_le hk h.size)).trans (h.block k hk hn)⟩
theorem Keep.trans (h : Keep w w' L) (h2 : Keep w' w'' L') (hL : ∀ k, k < w.heap.size → L' k → L k) : Keep w w'' L :=
  ⟨h2.os.trans h.os, h2.tape.trans h.tape, h2.output.trans h.output, Nat.le_trans h.size h2.size, fun k hk hn => (h2.block k (Nat.lt_of_lt_of_le hk h.size) (fun hl => hn (hL k hk hl))).trans (h.block k hk hn)⟩
theorem Keep.below (h : Keep w w' L) (hL : ∀ k, L k → B ≤ k) (hB : B ≤ w.heap.size) : Below B w w' :=
  ⟨h.os, h.tape, h.output, h.size, fun k hk => h.block k (by omega) (fun hl => by have := hL k hl; omega)⟩
theorem Keep.mono (h : Keep w w' L) (hL : ∀ k, L k → L' k) : Keep w w' L' := ⟨h.os, h.tape, h.output, h.size, fun k hk hn => h.block k hk (fun hl => hn (hL k hl))⟩
theorem Keep.of_far (h : Far w w' p r) : Keep w w' (fun k => k = p ∨ some k = r) := ⟨h.os, h.tape, h.output, h.size, fun k hk hn => h.block k hk (fun e => hn (.inl e)) (fun e => hn (.inr e))⟩
theorem Keep.of_below (h : Below w.heap.size w w') (L : Nat → Prop) : Keep w w' L := ⟨h.os, h.tape, h.output, h.size, fun k hk _ => h.block k hk⟩
theorem Cells.kept {g : Nat} {l : List Value} (h : Cells w g l) (hk : Keep w w' L) (hg : g < w.heap.size) (hn : ¬ L g) : Cells w' g l := h.same (hk.block g hg hn)
theorem Byt.kept {n : Nat} {A : Option Addr} {bs : List UInt8} (h : Byt w B A n bs) (hk : Keep w w' L) (hg : ∀ ad, A = some ad → ad.block < w.heap.size ∧ ¬ L ad.block) : Byt w' B A n bs :=
  ⟨h.len, fun hn => by
    obtain ⟨ad, e, hlt, hc⟩ := h.mem hn
    obtain ⟨h1, h2⟩ := hg ad e
    exact ⟨ad, e, hlt, fun j b hj => (World.cell?_of_block (by rw [addr_block]; exact hk.block _ h1 h2)).trans (hc j b hj)⟩⟩
end
end Go.Proofs.YthgpmnblkhehkaaDoor
