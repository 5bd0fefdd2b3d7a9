/- A slice of records, as it lies in memory. -/
import Derived.Test.YtecmopfaeopmdaaDoorCells
import Derived.Test.YtecmopfaeopmdaaDoorFormRef
namespace Go.Proofs.YtecmopfaeopmdaaDoor
open Go.RowKit

/-- A record's numbers, slices and bytes. -/
structure Rc where
  ki : Int
  Ak : Option Addr
  nk : Nat
  ck : Nat
  key : List UInt8
  Av : Option Addr
  nv : Nat
  cv : Nat
  val : List UInt8
  ex : Int
def Rc.ok (r : Rc) : Prop := I64 r.ki ∧ I64 r.ex ∧ r.nk ≤ r.ck ∧ r.ck ≤ 9223372036854775807 ∧ r.nv ≤ r.cv ∧ r.cv ≤ 9223372036854775807
/-- A record at an address; its bytes in blocks below B. -/
def RcAt (w : World) (B : Nat) (ad : Addr) (r : Rc) : Prop :=
  w.cell? ad = some (.int .i64 r.ki) ∧ w.cell? ⟨ad.block, ad.off + 1, none⟩ = some (.slice r.Ak r.nk r.ck) ∧ w.cell? ⟨ad.block, ad.off + 2, none⟩ = some (.slice r.Av r.nv r.cv) ∧ w.cell? ⟨ad.block, ad.off + 3, none⟩ = some (.int .i64 r.ex) ∧
    Byt w B r.Ak r.nk r.key ∧ Byt w B r.Av r.nv r.val ∧ r.ok
theorem RcAt.below {w w' : World} {B : Nat} {ad : Addr} {r : Rc} (h : RcAt w B ad r) (hb : Below B w w') (ha : ad.block < B) : RcAt w' B ad r :=
  ⟨(hb.cell ha).trans h.1, (hb.cell (p := ⟨ad.block, _, none⟩) ha).trans h.2.1, (hb.cell (p := ⟨ad.block, _, none⟩) ha).trans h.2.2.1, (hb.cell (p := ⟨ad.block, _, none⟩) ha).trans h.2.2.2.1, h.2.2.2.2.1.below hb, h.2.2.2.2.2.1.below hb, h.2.2.2.2.2.2⟩
/-- The slice value '.slice A n c' reads as these records, all of it in blocks below B. -/
def RAt (w : World) (B : Nat) (A : Option Addr) (n : Nat) (rs : List Rc) : Prop :=
  rs.length = n ∧ ∀ j r, rs[j]? = some r → ∃ ad, A = some ad ∧ ad.block < B ∧ RcAt w B (ad.add (j * 4)) r
theorem RAt.below {w w' : World} {B n : Nat} {A : Option Addr} {rs : List Rc} (h : RAt w B A n rs) (hb : Below B w w') : RAt w' B A n rs := ⟨h.1, fun j r hj => by
  obtain ⟨ad, e, hB, h1⟩ := h.2 j r hj
  exact ⟨ad, e, hB, h1.below hb (by rw [addr_block]; exact hB)⟩⟩
theorem RAt.get {w : World} {B n k : Nat} {A : Option Addr} {rs : List Rc} (h : RAt w B A n rs) (hk : k < n) : ∃ r ad, rs[k]? = some r ∧ A = some ad ∧ ad.block < B ∧ RcAt w B (ad.add (k * 4)) r := by
  have hl : k < rs.length := by rw [h.1]; exact hk
  obtain ⟨ad, r⟩ := h.2 k _ (List.getElem?_eq_getElem hl)
  exact ⟨_, ad, List.getElem?_eq_getElem hl, r⟩
end Go.Proofs.YtecmopfaeopmdaaDoor
