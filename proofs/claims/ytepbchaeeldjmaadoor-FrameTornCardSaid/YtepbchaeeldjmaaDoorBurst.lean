/- A burst of four bytes, written into a row of the call's own; an array of four bytes in memory. -/
import Derived.Test.YtepbchaeeldjmaaDoorFrameLaw
import Derived.Laws.OwnMore
namespace Go.Proofs.YtepbchaeeldjmaaDoor
open Go.RowKit

theorem run_equalIn_arr4 {P : Program} (w : World) (d : Nat) {t e : TypeId} {k : IntKind} {i : TypeInfo} (ht : P.underlying t = some (.array 4 e)) (he : P.underlying e = some (.int k)) (hi : P.info? e = some i) (hs : i.size = 1)
    (a0 a1 a2 a3 b0 b1 b2 b3 : Int) :
    (Op.equalIn (d + 2) t (.agg #[.int k a0, .int k a1, .int k a2, .int k a3]) (.agg #[.int k b0, .int k b1, .int k b2, .int k b3])).run P w = .ok ((a0 == b0) && ((a1 == b1) && ((a2 == b2) && (a3 == b3)))) w := by
  rw [Op.equalIn]
  have hq : ∀ (a b : Int) w, (Op.equalIn (d + 1) e (.int k a) (.int k b)).run P w = .ok (a == b) w := fun a b w => run_equalIn_int w d e k k a b he
  simp [run_underlying ht, sizeOf, typeInfo, hi, hs, part, isAgg, run_underlying he, hq, show List.range' 0 4 = [0, 1, 2, 3] from rfl]
  by_cases h0 : a0 = b0 <;> by_cases h1 : a1 = b1 <;> by_cases h2 : a2 = b2 <;> by_cases h3 : a3 = b3 <;> simp_all

theorem u8_xor_u8 (a b : UInt8) : bits .xor .u8 (a.toNat : Int) (b.toNat : Int) = (((a ^^^ b).toNat : Nat) : Int) := by
  rw [u8_xor_nat _ _ a.toNat_lt b.toNat_lt, UInt8.toNat_xor]

/-- The box that holds the array x. -/
def Box4 (w : World) (g : Nat) (x0 x1 x2 x3 : UInt8) : Prop := ∀ j x, [x0, x1, x2, x3][j]? = some x → w.cell? ⟨g, j, none⟩ = some (.int .u8 (x.toNat : Int))
theorem Box4.new (w : World) (e : TypeId) (x0 x1 x2 x3 : UInt8) : Box4 (w.alloc (.cells #[.int .u8 (x0.toNat : Int), .int .u8 (x1.toNat : Int), .int .u8 (x2.toNat : Int), .int .u8 (x3.toNat : Int)] e)) w.heap.size x0 x1 x2 x3 := by
  intro j x hj
  rw [cell_of_row _ _ _ _ _ _ (heap_alloc_new w _)]
  match j, hj with
  | 0, hj => simp at hj; subst hj; rfl
  | 1, hj => simp at hj; subst hj; rfl
  | 2, hj => simp at hj; subst hj; rfl
  | 3, hj => simp at hj; subst hj; rfl
theorem Box4.below {w w' : World} {g B : Nat} {x0 x1 x2 x3 : UInt8} (h : Box4 w g x0 x1 x2 x3) (hb : Below B w w') (hg : g < B) : Box4 w' g x0 x1 x2 x3 := fun j x hj => (hb.cell (by exact hg)).trans (h j x hj)
theorem Box4.at_ {w : World} {g : Nat} {x0 x1 x2 x3 : UInt8} (h : Box4 w g x0 x1 x2 x3) {k : Nat} (hk : k < 4) : ∃ x, [x0, x1, x2, x3][k]? = some x ∧ w.cell? ⟨g, k, none⟩ = some (.int .u8 (x.toNat : Int)) := by
  have hl : k < [x0, x1, x2, x3].length := hk
  exact ⟨_, List.getElem?_eq_getElem hl, h k _ (List.getElem?_eq_getElem hl)⟩

theorem rel_burst2 {wr : World} {B g c n q k : Nat} {e : TypeId} {bs : List UInt8} {x0 x1 x2 x3 x b : UInt8}
    (hown : Own wr B e (.slice (some ⟨g, 0, none⟩) n c) n (Crc.burst bs q [x0, x1, x2, x3] k))
    (hb : (Crc.burst bs q [x0, x1, x2, x3] k)[q + k]? = some b) (hx : [x0, x1, x2, x3][k]? = some x) :
    ∀ w2, w2 = (wr.setCell ⟨g, q + k, none⟩ (.int .u8 ((b.toNat ^^^ x.toNat : Nat) : Int))).drew →
    Own w2 B e (.slice (some ⟨g, 0, none⟩) n c) n (Crc.burst bs q [x0, x1, x2, x3] (k + 1)) ∧ Below B wr w2 := by
  rw [← UInt8.toNat_xor]
  rintro _ rfl
  have hge := hown.ge (g := g) rfl
  refine ⟨?_, ((Below.refl B wr).setCell (by show B ≤ g; omega) _).drew⟩
  have h1 := (World.ownsRow.stored hown (q + k) (.int .u8 ((b ^^^ x).toNat : Int))).1
  have e1 : Crc.burst bs q [x0, x1, x2, x3] (k + 1) = (Crc.burst bs q [x0, x1, x2, x3] k).set (q + k) (b ^^^ x) := by
    simp [Crc.burst, List.getD, hb, hx]
  unfold Own
  rw [e1, show bytes ((Crc.burst bs q [x0, x1, x2, x3] k).set (q + k) (b ^^^ x)) = (bytes (Crc.burst bs q [x0, x1, x2, x3] k)).set (q + k) (.int .u8 ((b ^^^ x).toNat : Int)) from by simp [bytes, List.map_set]]
  exact h1

theorem torn_pos (at_ : Int) : -58 < at_.tmod 58 ∧ at_.tmod 58 < 58 ∧ ∃ q : Nat, at_.tmod 58 % 58 = (q : Int) ∧ q < 58 := by
  have h2 : at_.tmod 58 < 58 := Int.tmod_lt_of_pos at_ (by omega)
  have h3 : -58 < at_.tmod 58 := Int.lt_tmod_of_pos at_ (by omega)
  exact ⟨h3, h2, (at_.tmod 58 % 58).toNat, by omega, by omega⟩
end Go.Proofs.YtepbchaeeldjmaaDoor
