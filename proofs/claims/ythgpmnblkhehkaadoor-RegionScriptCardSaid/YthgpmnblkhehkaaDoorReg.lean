/- An open region: what flush computes; a region in memory. -/
import Derived.Test.YthgpmnblkhehkaaDoorRDev4
import Derived.Test.YthgpmnblkhehkaaDoorPackTwo
namespace Go.Proofs.YthgpmnblkhehkaaDoor
open Go.RowKit

/-- The frames are written until one is not. -/
def flushS (S : Nat) : DS → List (Int × List UInt8) → Int × DS
  | s, [] => (0, s)
  | s, x :: l => if (writeS S s x.1 x.2).1 = 0 then flushS S (writeS S s x.1 x.2).2 l else writeS S s x.1 x.2
theorem writeS_wr (S : Nat) (s : DS) (i : Int) (b : List UInt8) : (writeS S s i b).2.wr ≤ s.wr + 1 := by
  unfold writeS
  have hb := (burnS_img s).2.2
  split
  · exact Nat.le_succ _
  · split
    · exact Nat.le_succ _
    · split
      · exact Nat.le_succ _
      · split
        · show (burnS s).wr ≤ _
          rw [hb]; exact Nat.le_succ _
        · exact Nat.le_refl _
theorem flushS_drop {S : Nat} {s : DS} {l : List (Int × List UInt8)} {k : Nat} {x : Int × List UInt8} (h : l[k]? = some x) : flushS S s (l.drop k) = if (writeS S s x.1 x.2).1 = 0 then flushS S (writeS S s x.1 x.2).2 (l.drop (k + 1)) else writeS S s x.1 x.2 := by
  have hk : k < l.length := (List.getElem?_eq_some_iff.1 h).1
  have e : l[k] = x := (List.getElem?_eq_some_iff.1 h).2
  rw [List.drop_eq_getElem_cons hk, e]
  rfl
theorem flushS_ok {S : Nat} : ∀ (l : List (Int × List UInt8)) (s : DS), s.ok S → (flushS S s l).2.ok S
  | [], s, h => h
  | x :: l, s, h => by
    unfold flushS
    split
    · exact flushS_ok l _ (h.write x.1 x.2)
    · exact h.write x.1 x.2
theorem flushS_wr {S : Nat} : ∀ (l : List (Int × List UInt8)) (s : DS), (flushS S s l).2.wr ≤ s.wr + l.length
  | [], s => Nat.le_refl _
  | x :: l, s => by
    have h1 := writeS_wr S s x.1 x.2
    unfold flushS
    split
    · have := flushS_wr (S := S) l (writeS S s x.1 x.2).2
      rw [List.length_cons]
      omega
    · rw [List.length_cons]
      omega
/-- What Take returns: sectors with their frames. -/
def takeS (f s : Int) (bs : List UInt8) (t k : Nat) : List (Int × List UInt8) := (List.range k).map fun j => (f + 1 + ((t + j : Nat) : Int), frame 2 s.toNat (f + 1 + ((t + j : Nat) : Int)).toNat (chunk bs (t + j)))
section
variable {w : World} {d g r S c : Nat} {s : DS}
theorem dwrite_any (i : Int) (b : List UInt8) (A : Option Addr) (n cb : Nat) (hn : n ≤ 9223372036854775807) (hb : Byt w w.heap.size A n b) (hsep : ∀ ad, A = some ad → ¬ dvL d g r ad.block) (h : Dv w d g r S c s) (hwr : s.wr ≤ 1000000000) :
    Calls Tryd.prog 34 #[.pointer (some ⟨d, 0, none⟩), .int .i64 i, .slice A n cb] w (DWr w d g r S c (writeS S s i b)) := by
  by_cases hbad : s.dead = true ∨ i < 0 ∨ (S : Int) ≤ i ∨ 64 < n ∨ (burnS s).dead = true
  · exact dwrite_bad i b A n cb hn hb.len h hbad
  · have h1 : s.dead = false := by
      cases e : s.dead
      · rfl
      · exact absurd (.inl e) hbad
    have h2 : (burnS s).dead = false := by
      cases e : (burnS s).dead
      · rfl
      · exact absurd (.inr (.inr (.inr (.inr e)))) hbad
    obtain ⟨k, rfl⟩ := Int.eq_ofNat_of_zero_le (show 0 ≤ i by omega)
    exact dwrite_good k b A n cb (by omega) hb hsep h h1 (by omega) h2 hwr
end
section
variable {w : World} {d g1 g2 g3 S c1 c2 c3 : Nat} {s : DS} {lf : Int}
theorem rwrite_any (i : Int) (b : List UInt8) (A : Option Addr) (n cb : Nat) (hn : n ≤ 9223372036854775807) (hb : Byt w w.heap.size A n b) (hsep : ∀ ad, A = some ad → ¬ rvL d g1 g2 g3 ad.block) (h : Rv w d g1 g2 g3 S c1 c2 c3 s lf) (hwr : s.wr ≤ 1000000000) :
    Calls Tryd.prog 44 #[.pointer (some ⟨d, 0, none⟩), .int .i64 i, .slice A n cb] w (RWr w d g1 g2 g3 S c1 c2 c3 (writeS S s i b)) := by
  by_cases hbad : s.dead = true ∨ i < 0 ∨ (S : Int) ≤ i ∨ 64 < n ∨ (burnS s).dead = true
  · exact rwrite_bad i b A n cb hn hb.len h hbad
  · have h1 : s.dead = false := by
      cases e : s.dead
      · rfl
      · exact absurd (.inl e) hbad
    have h2 : (burnS s).dead = false := by
      cases e : (burnS s).dead
      · rfl
      · exact absurd (.inr (.inr (.inr (.inr e)))) hbad
    obtain ⟨k, rfl⟩ := Int.eq_ofNat_of_zero_le (show 0 ≤ i by omega)
    exact rwrite_good k b A n cb (by omega) hb hsep h h1 (by omega) h2 hwr
end
end Go.Proofs.YthgpmnblkhehkaaDoor
