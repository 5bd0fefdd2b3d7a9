/- Slices of layouts: as they lie in memory; slices.Equal over them. -/
import Derived.Test.YthjnbdbbeidhgaaDoorWireWalks
import Derived.Test.YthjnbdbbeidhgaaDoorCells
import Derived.Test.YthjnbdbbeidhgaaDoorFormRef
namespace Go.Proofs.YthjnbdbbeidhgaaDoor
open Go.RowKit

/-- A layout. -/
structure Ly where
  a : Int
  b : Int
  c : Int
  d : Int
  deriving DecidableEq
def Ly.ok (l : Ly) : Prop := I64 l.a ∧ I64 l.b ∧ I64 l.c ∧ I64 l.d
def Ly.zero : Ly := ⟨0, 0, 0, 0⟩

/-- The slice value '.slice A n c' reads as these layouts, all of it in blocks below B. -/
def LAt (w : World) (B : Nat) (A : Option Addr) (n : Nat) (fs : List Ly) : Prop :=
  fs.length = n ∧ ∀ j l, fs[j]? = some l → ∃ ad, A = some ad ∧ ad.block < B ∧ w.cell? (ad.add (j * 4)) = some (.int .i64 l.a) ∧ w.cell? ⟨(ad.add (j * 4)).block, (ad.add (j * 4)).off + 1, none⟩ = some (.int .i64 l.b) ∧
    w.cell? ⟨(ad.add (j * 4)).block, (ad.add (j * 4)).off + 2, none⟩ = some (.int .i64 l.c) ∧ w.cell? ⟨(ad.add (j * 4)).block, (ad.add (j * 4)).off + 3, none⟩ = some (.int .i64 l.d)
section
variable {w w' : World} {B B' n : Nat} {A : Option Addr} {fs : List Ly}
theorem LAt.below (h : LAt w B A n fs) (hb : Below B w w') : LAt w' B A n fs := ⟨h.1, fun j l hj => by
  obtain ⟨ad, e, hB, h1, h2, h3, h4⟩ := h.2 j l hj
  have hc : ∀ o, w'.cell? ⟨(ad.add (j * 4)).block, o, none⟩ = w.cell? ⟨(ad.add (j * 4)).block, o, none⟩ := fun o => hb.cell (by show (ad.add _).block < B; rw [addr_block]; exact hB)
  exact ⟨ad, e, hB, (hb.cell (by rw [addr_block]; exact hB)).trans h1, (hc _).trans h2, (hc _).trans h3, (hc _).trans h4⟩⟩
theorem LAt.more (h : LAt w B A n fs) (hB : B ≤ B') : LAt w B' A n fs := ⟨h.1, fun j l hj => by
  obtain ⟨ad, e, hlt, r⟩ := h.2 j l hj
  exact ⟨ad, e, by omega, r⟩⟩
theorem LAt.belowBy {C : Nat} (h : LAt w B A n fs) (hb : Below C w w') (hC : B ≤ C) : LAt w' B A n fs := h.below (hb.mono hC)
theorem LAt.drewN (h : LAt w B A n fs) (k : Nat) : LAt (w.drewN k) B A n fs := h
theorem LAt.nil (w : World) (B : Nat) (A : Option Addr) : LAt w B A 0 [] := ⟨rfl, fun j l hj => by simp at hj⟩
theorem LAt.get {k : Nat} (h : LAt w B A n fs) (hk : k < n) : ∃ l ad, fs[k]? = some l ∧ A = some ad ∧ ad.block < B ∧ w.cell? (ad.add (k * 4)) = some (.int .i64 l.a) ∧ w.cell? ⟨(ad.add (k * 4)).block, (ad.add (k * 4)).off + 1, none⟩ = some (.int .i64 l.b) ∧
    w.cell? ⟨(ad.add (k * 4)).block, (ad.add (k * 4)).off + 2, none⟩ = some (.int .i64 l.c) ∧ w.cell? ⟨(ad.add (k * 4)).block, (ad.add (k * 4)).off + 3, none⟩ = some (.int .i64 l.d) := by
  have hl : k < fs.length := by rw [h.1]; exact hk
  obtain ⟨ad, r⟩ := h.2 k _ (List.getElem?_eq_getElem hl)
  exact ⟨_, ad, List.getElem?_eq_getElem hl, r⟩
theorem LAt.take {k : Nat} (h : LAt w B A n fs) (hk : k ≤ n) : LAt w B A k (fs.take k) :=
  ⟨by rw [List.length_take, h.1]; omega, fun j l hj => h.2 j l (by
    rw [List.getElem?_take] at hj
    split at hj
    · exact hj
    · cases hj)⟩
end

/-- Two layouts differ in a number: the first one. -/
theorem ne_first {a b c d a' b' c' d' : Int} (h : ¬ (a = a' ∧ b = b' ∧ c = c' ∧ d = d')) : ¬ a = a' ∨ (a = a' ∧ ¬ b = b') ∨ (a = a' ∧ b = b' ∧ ¬ c = c') ∨ (a = a' ∧ b = b' ∧ c = c' ∧ ¬ d = d') := by
  by_cases h1 : a = a'
  · by_cases h2 : b = b'
    · by_cases h3 : c = c'
      · exact .inr (.inr (.inr ⟨h1, h2, h3, fun h4 => h ⟨h1, h2, h3, h4⟩⟩))
      · exact .inr (.inr (.inl ⟨h1, h2, h3⟩))
    · exact .inr (.inl ⟨h1, h2⟩)
  · exact .inl h1
/-- What a walk keeps: the lists are alike so far. -/
theorem take_more {α : Type} {xs ys : List α} {k : Nat} {x : α} (h : xs.take k = ys.take k) (h1 : xs[k]? = some x) (h2 : ys[k]? = some x) : xs.take (k + 1) = ys.take (k + 1) := by
  obtain ⟨l1, e1⟩ := List.getElem?_eq_some_iff.1 h1
  obtain ⟨l2, e2⟩ := List.getElem?_eq_some_iff.1 h2
  rw [List.take_succ_eq_append_getElem l1, List.take_succ_eq_append_getElem l2, h, e1, e2]

set_option maxHeartbeats 1000000 in
theorem leq_any (xs ys : List Ly) (A A' : Option Addr) (n n' cap cap' B B' : Nat) (w : World) (hx : LAt w B A n xs) (hy : LAt w B' A' n' ys) (hn : n ≤ 9223372036854775807) (hn' : n' ≤ 9223372036854775807) :
    Calls Tryd.prog 51 #[.slice A n cap, .slice A' n' cap'] w fun e w' => e = .returned (.bool (decide (xs = ys))) ∧ ∃ k, w' = w.drewN k := by
  have HX := Lib.hid hx
  have HY := Lib.hid hy
  clear hx hy
  by_cases hl : n = n'
  · subst hl
    have HL : Hid (xs.length = n ∧ ys.length = n) := ⟨HX.out.1, HY.out.1⟩
    go_enter Tryd.func51, Tryd.ntmps51
    go_wp2
    go_loopw [13] (fun i wr => ∃ k : Nat, k ≤ n ∧ i = .int .i64 k ∧ Hid (xs.take k = ys.take k) ∧ ∃ q, wr = w.drewN q) (fun i _ => n - (intOf i).toNat)
    case atStart => exact ⟨0, Nat.zero_le _, rfl, by simp [Hid], 0, rfl⟩
    case round =>
      obtain ⟨k, hk, rfl, ht, q, rfl⟩ := hrel
      by_cases hlt : k < n
      · obtain ⟨⟨xa, xb, xc, xd⟩, ad, hx1, rfl, _, hxa, hxb, hxc, hxd⟩ := HX.out.get hlt
        obtain ⟨⟨ya, yb, yc, yd⟩, ad', hy1, rfl, _, hya, hyb, hyc, hyd⟩ := HY.out.get hlt
        have H1 := Lib.hid hx1
        have H2 := Lib.hid hy1
        have hk1 : (0 : Int) ≤ (k : Int) := by omega
        have hk2 : (k : Int) < n := by omega
        clear hx1 hy1
        by_cases hxy : xa = ya ∧ xb = yb ∧ xc = yc ∧ xd = yd
        · obtain ⟨rfl, rfl, rfl, rfl⟩ := hxy
          go_wp2
          go_quiet (fail)
          go_wp2
          go_roundw
          case rel => exact ⟨k + 1, by omega, by go_num, take_more ht.out H1.out H2.out, _, rfl⟩
          case measure => simp [intOf]; omega
        · have HF : Hid (decide (xs = ys) = false) := by
            refine decide_eq_false fun h => hxy ?_
            have h1 := H1.out; have h2 := H2.out
            rw [h, h2] at h1
            injection h1 with h1
            injection h1 with e1 e2 e3 e4
            exact ⟨e1.symm, e2.symm, e3.symm, e4.symm⟩
          rcases ne_first hxy with hne | ⟨rfl, hne⟩ | ⟨rfl, rfl, hne⟩ | ⟨rfl, rfl, rfl, hne⟩
          all_goals
            clear hxy
            go_wp2
            go_quiet (fail)
            go_wp2
            go_ret
            exact ⟨by rw [HF.out]; rfl, _, by rw [World.drewN_drewN]⟩
      · have hkn : k = n := by omega
        subst hkn
        have HF : Hid (decide (xs = ys) = true) := by
          refine decide_eq_true ?_
          have := ht.out
          rw [List.take_of_length_le (by rw [HL.out.1]; exact Nat.le_refl _), List.take_of_length_le (by rw [HL.out.2]; exact Nat.le_refl _)] at this
          exact this
        go_wp2
        go_ret
        exact ⟨by rw [HF.out]; rfl, _, rfl⟩
  · have HF : Hid (decide (xs = ys) = false) := by
      refine decide_eq_false fun h => hl ?_
      rw [← HX.out.1, ← HY.out.1, h]
    have hne : ((n : Int) != (n' : Int)) = true := by simp only [bne_iff_ne, ne_eq]; omega
    clear hl
    go_enter Tryd.func51, Tryd.ntmps51
    go_wp2
    go_ret
    exact ⟨by rw [HF.out]; rfl, 0, rfl⟩
end Go.Proofs.YthjnbdbbeidhgaaDoor
