/- A packer and the reference's, with the same stream. -/
import Derived.Test.YtecmopfaeopmdaaDoorPackBytes
import Derived.Test.YtecmopfaeopmdaaDoorPackTwo
import Derived.Test.YtecmopfaeopmdaaDoorRecs
namespace Go.Proofs.YtecmopfaeopmdaaDoor
open Go.RowKit

theorem Far.weak {w w' : World} {p : Nat} {r : Option Nat} (h : Far w w' p none) : Far w w' p r := ⟨h.os, h.tape, h.output, h.size, fun k hk h1 _ => h.block k hk h1 (fun e => by cases e)⟩
/-- A packer p, the reference's q; in a loop that began in w7. -/
structure Ss (w7 wr : World) (p q : Nat) (a b c d f sl s : Int) (A : Option Addr) (n cap : Nat) (t : Int) (bs : List UInt8) (A' : Option Addr) (n' cap' : Nat) (t' : Int) (bs' : List UInt8) : Prop where
  pkp : Pk wr p a b c d f s A n cap t bs
  pkq : Pk wr q a b c d sl s A' n' cap' t' bs'
  keep : Keep w7 wr (fun k => k = p ∨ k = q)
  ne : p ≠ q ∧ p < w7.heap.size ∧ q < w7.heap.size
  hiA : ∀ g, (Value.slice A n cap).ownBlock = some g → w7.heap.size ≤ g
  hiA' : ∀ g, (Value.slice A' n' cap').ownBlock = some g → w7.heap.size ≤ g
  d1 : Diff (Value.slice A n cap).ownBlock (Value.slice A' n' cap').ownBlock
section
variable {w7 wr w' w1 w2 : World} {p q : Nat} {a b c d f sl s : Int} {A A1 A' : Option Addr} {n n1 n' cap cap1 cap' : Nat} {t t1 t' : Int} {bs bs1 bs' : List UInt8}
theorem Ss.later (h : Ss w7 wr p q a b c d f sl s A n cap t bs A' n' cap' t' bs') (hb : Below wr.heap.size wr w') : Ss w7 w' p q a b c d f sl s A n cap t bs A' n' cap' t' bs' :=
  ⟨h.pkp.below hb, h.pkq.below hb, h.keep.later hb, h.ne, h.hiA, h.hiA', h.d1⟩
theorem Ss.stepp (h : Ss w7 wr p q a b c d f sl s A n cap t bs A' n' cap' t' bs') (hpk : Pk w' p a b c d f s A1 n1 cap1 t1 bs1) (hf : Far wr w' p (Value.slice A n cap).ownBlock)
    (hb : Born wr (Value.slice A n cap).ownBlock (Value.slice A1 n1 cap1).ownBlock) : Ss w7 w' p q a b c d f sl s A1 n1 cap1 t1 bs1 A' n' cap' t' bs' := by
  obtain ⟨h1, h2, h3⟩ := h.ne
  refine ⟨hpk, h.pkq.far hf (fun e => h1 e.symm) (fun e => by have := h.hiA _ e; omega) (fun g e e' => by have := h.hiA' _ e; omega) h.d1, h.keep.far hf (.inl (.inl rfl)) (fun g e => .inr (h.hiA g e)), h.ne, ?_, h.hiA', h.d1.born hb (fun g e => h.pkq.own.lt e)⟩
  intro g e
  rcases hb with hb | hb
  · rw [hb] at e; exact h.hiA g e
  · exact Nat.le_trans h.keep.size (hb g e)
theorem Ss.stepq (h : Ss w7 wr p q a b c d f sl s A n cap t bs A' n' cap' t' bs') (hpk : Pk w' q a b c d sl s A1 n1 cap1 t1 bs1) (hf : Far wr w' q (Value.slice A' n' cap').ownBlock)
    (hb : Born wr (Value.slice A' n' cap').ownBlock (Value.slice A1 n1 cap1).ownBlock) : Ss w7 w' p q a b c d f sl s A n cap t bs A1 n1 cap1 t1 bs1 := by
  obtain ⟨h1, h2, h3⟩ := h.ne
  refine ⟨h.pkp.far hf h1 (fun e => by have := h.hiA' _ e; omega) (fun g e e' => by have := h.hiA _ e; omega) h.d1.symm, hpk, h.keep.far hf (.inl (.inr rfl)) (fun g e => .inr (h.hiA' g e)), h.ne, h.hiA, ?_, (h.d1.symm.born hb (fun g e => h.pkp.own.lt e)).symm⟩
  intro g e
  rcases hb with hb | hb
  · rw [hb] at e; exact h.hiA' g e
  · exact Nat.le_trans h.keep.size (hb g e)
variable {tn k : Nat} {A2 A3 A5 A6 : Option Addr} {c2 c3 c5 c6 : Nat} {vs us : List Value}
theorem Ss.takep (h : Ss w7 wr p q a b c d f sl s A n cap t bs A' n' cap' t' bs') (tk : Tk wr w1 p a b c d f s A n cap tn bs k A2 c2 A3 c3 vs) : Ss w7 w1 p q a b c d f sl s A n cap ((tn + k : Nat) : Int) bs A' n' cap' t' bs' :=
  h.stepp tk.pk tk.far.weak (Born.refl _ _)
theorem Ss.takes (h : Ss w7 wr p q a b c d f sl s A n cap t bs A' n' cap' t' bs) (tk : Tk wr w1 p a b c d f s A n cap tn bs k A2 c2 A3 c3 vs) (rt : Rt w1 w2 q a b c d sl f s A' n' cap' tn t1 bs k A5 c5 k A6 c6 us) :
    Vat w2 w2.heap.size A2 k (ints (sectS f tn k)) ∧ Vat w2 w2.heap.size A5 k (ints (sectS f tn k)) ∧ Vat w2 w2.heap.size A3 k vs ∧ Vat w2 w2.heap.size A6 k us ∧ Elems w2 vs (framS f s bs tn k) ∧ Elems w2 us (framS f s bs tn k) ∧
      Ss w7 w2 p q a b c d f sl s A n cap ((tn + k : Nat) : Int) bs A' n' cap' t1 bs := by
  obtain ⟨h1, h2, h3⟩ := h.ne
  have sk := h.keep.size
  have hq : ∀ g, wr.heap.size ≤ g → g ≠ q := fun g hg e => by omega
  refine ⟨?_, rt.sec.vat, ?_, rt.fra.vat, ?_, rt.frs.elems, (h.takep tk).stepq rt.pk rt.far.weak (Born.refl _ _)⟩
  · exact Vec.vat (tk.sec.same fun g e => rt.far.block g (tk.sec.lt e) (hq g (tk.sec.ge e)) (fun e' => by cases e'))
  · exact Vec.vat (tk.fra.same fun g e => rt.far.block g (tk.fra.lt e) (hq g (tk.fra.ge e)) (fun e' => by cases e'))
  · exact (tk.frs.keep (w' := w2) (L' := fun g => g < wr.heap.size ∨ some g = (Value.slice A2 k c2).ownBlock ∨ some g = (Value.slice A3 k c3).ownBlock) rt.far.size (fun j hj hn => rt.far.block j hj (fun e => hn (.inl (by omega))) (fun e => by cases e)) (fun _ _ h => h)).elems
end

/-- A record's cells inside a block, written anew. -/
theorem short_store {B : Nat} {wr w1 : World} {g : Nat} {x0 x1 x2 x3 x4 x5 x6 : Value} (hg : B ≤ g) (hb : Below B wr w1) (hx : Cells w1 g [x0, x1, x2, x3, x4, x5, x6]) (u1 u2 u3 u4 : Value) :
    Below B wr ((((w1.setCell ⟨g, 1, none⟩ u1).setCell ⟨g, 2, none⟩ u2).setCell ⟨g, 3, none⟩ u3).setCell ⟨g, 4, none⟩ u4) ∧ Cells ((((w1.setCell ⟨g, 1, none⟩ u1).setCell ⟨g, 2, none⟩ u2).setCell ⟨g, 3, none⟩ u3).setCell ⟨g, 4, none⟩ u4) g [x0, u1, u2, u3, u4, x5, x6] :=
  ⟨Below.setCell (Below.setCell (Below.setCell (Below.setCell hb (by exact hg) _) (by exact hg) _) (by exact hg) _) (by exact hg) _, (((hx.set 1 u1).set 2 u2).set 3 u3).set 4 u4⟩

/-- A call of a script: a kind, a record, two numbers. -/
structure Op7 where
  kind : Int
  r : Rc
  off : Int
  n : Int
def Op7At (w : World) (B : Nat) (ad : Addr) (o : Op7) : Prop :=
  w.cell? ad = some (.int .i64 o.kind) ∧ w.cell? ⟨ad.block, ad.off + 1, none⟩ = some (.int .i64 o.r.ki) ∧ w.cell? ⟨ad.block, ad.off + 2, none⟩ = some (.slice o.r.Ak o.r.nk o.r.ck) ∧ w.cell? ⟨ad.block, ad.off + 3, none⟩ = some (.slice o.r.Av o.r.nv o.r.cv) ∧ w.cell? ⟨ad.block, ad.off + 4, none⟩ = some (.int .i64 o.r.ex) ∧
    w.cell? ⟨ad.block, ad.off + 5, none⟩ = some (.int .i64 o.off) ∧ w.cell? ⟨ad.block, ad.off + 6, none⟩ = some (.int .i64 o.n) ∧ Byt w B o.r.Ak o.r.nk o.r.key ∧ Byt w B o.r.Av o.r.nv o.r.val ∧ o.r.ok ∧ I64 o.kind ∧ I64 o.off ∧ I64 o.n
theorem Op7At.below {w w' : World} {B : Nat} {ad : Addr} {o : Op7} (h : Op7At w B ad o) (hb : Below B w w') (ha : ad.block < B) : Op7At w' B ad o := by
  obtain ⟨h0, h1, h2, h3, h4, h5, h6, h7, h8, h9⟩ := h
  exact ⟨(hb.cell ha).trans h0, (hb.cell (p := ⟨ad.block, _, none⟩) ha).trans h1, (hb.cell (p := ⟨ad.block, _, none⟩) ha).trans h2, (hb.cell (p := ⟨ad.block, _, none⟩) ha).trans h3, (hb.cell (p := ⟨ad.block, _, none⟩) ha).trans h4, (hb.cell (p := ⟨ad.block, _, none⟩) ha).trans h5, (hb.cell (p := ⟨ad.block, _, none⟩) ha).trans h6, h7.below hb, h8.below hb, h9⟩
def OAt (w : World) (B : Nat) (A : Option Addr) (n : Nat) (os : List Op7) : Prop :=
  os.length = n ∧ ∀ j o, os[j]? = some o → ∃ ad, A = some ad ∧ ad.block < B ∧ Op7At w B (ad.add (j * 7)) o
theorem OAt.get {w : World} {B n k : Nat} {A : Option Addr} {os : List Op7} (h : OAt w B A n os) (hk : k < n) : ∃ o ad, A = some ad ∧ ad.block < B ∧ Op7At w B (ad.add (k * 7)) o := by
  have hl : k < os.length := by rw [h.1]; exact hk
  obtain ⟨ad, r⟩ := h.2 k _ (List.getElem?_eq_getElem hl)
  exact ⟨_, ad, r⟩
end Go.Proofs.YtecmopfaeopmdaaDoor
