/- The reader: NewReader, take, Num, Bytes, Zeros, Ok, Rest. -/
import Derived.Test.YthjnbdbbeidhgaaDoorWireWalks
namespace Go.Proofs.YthjnbdbbeidhgaaDoor
open Go.RowKit

/-- Block g is a reader: bs is what is left. -/
def Rdr (w : World) (g : Nat) (bs : List UInt8) (bad : Bool) : Prop :=
  ∃ A n cap, w.cell? ⟨g, 0, none⟩ = some (.slice A n cap) ∧ w.cell? ⟨g, 1, none⟩ = some (.bool bad) ∧ w.frozen? ⟨g, 0, none⟩ = false ∧ w.frozen? ⟨g, 1, none⟩ = false ∧ n ≤ cap ∧ cap ≤ 9223372036854775807 ∧ Byt w g A n bs

theorem Rdr.keep {w w' : World} {g : Nat} {bs : List UInt8} {bad : Bool} (h : Rdr w g bs bad) (hk : ∀ b, b ≤ g → w'.heap[b]? = w.heap[b]?) : Rdr w' g bs bad := by
  obtain ⟨A, n, cap, h1, h2, h3, h4, h5, h6, h7⟩ := h
  have c : ∀ p : Addr, p.block ≤ g → w'.cell? p = w.cell? p := fun p hp => World.cell?_of_block (hk p.block hp)
  have f : ∀ p : Addr, p.block ≤ g → w'.frozen? p = w.frozen? p := fun p hp => World.frozen?_of_block (hk p.block hp)
  exact ⟨A, n, cap, (c _ (Nat.le_refl _)).trans h1, (c _ (Nat.le_refl _)).trans h2, (f _ (Nat.le_refl _)).trans h3, (f _ (Nat.le_refl _)).trans h4, h5, h6, h7.keep fun p hp => c p (by omega)⟩
theorem Rdr.below {w w' : World} {g B : Nat} {bs : List UInt8} {bad : Bool} (h : Rdr w g bs bad) (hb : Below B w w') (hg : g < B) : Rdr w' g bs bad := h.keep fun b hb' => hb.block b (by omega)
theorem Rdr.drewN {w : World} {g : Nat} {bs : List UInt8} {bad : Bool} (h : Rdr w g bs bad) (k : Nat) : Rdr (w.drewN k) g bs bad := h.keep fun _ _ => rfl
theorem Rdr.len {w : World} {g : Nat} {bs : List UInt8} {bad : Bool} (h : Rdr w g bs bad) : bs.length ≤ 9223372036854775807 := by
  obtain ⟨A, n, cap, h1, h2, h3, h4, h5, h6, h7⟩ := h
  rw [h7.len]; omega
theorem Rdr.lt {w : World} {g : Nat} {bs : List UInt8} {bad : Bool} (h : Rdr w g bs bad) : g < w.heap.size := by
  obtain ⟨A, n, cap, h1, _⟩ := h
  rcases Nat.lt_or_ge g w.heap.size with hlt | hge
  · exact hlt
  · simp [World.cell?, Array.getElem?_eq_none hge] at h1

theorem only_set (w : World) (g o : Nat) (u : Value) : w.grownBy (w.setCell ⟨g, o, none⟩ u) (some g) :=
  ⟨rfl, rfl, rfl, by simp [World.setCell], fun i _ hne => Below.heap_setCell w _ u i (fun e => hne (by rw [e]))⟩
theorem only_below {a w : World} {g B : Nat} (h : a.grownBy w (some g)) (hB : B ≤ g) (hs : B ≤ a.heap.size) : Below B a w := (Below.refl B a).grown h hs (fun k hk => by cases hk; exact hB)
theorem only_trans {a b c : World} {g : Nat} (h : a.grownBy b (some g)) (k : b.grownBy c (some g)) : a.grownBy c (some g) :=
  ⟨k.os.trans h.os, k.tape.trans h.tape, k.output.trans h.output, Nat.le_trans h.size k.size, fun i hi hne => (k.block i (Nat.lt_of_lt_of_le hi h.size) hne).trans (h.block i hi hne)⟩
theorem only_of_below {a w : World} {B g : Nat} (h : Below B a w) (hB : a.heap.size ≤ B) : a.grownBy w (some g) := ⟨h.os, h.tape, h.output, h.size, fun i hi _ => h.block i (by omega)⟩

/-- What take leaves when it can read m bytes. -/
def TakeOk (w : World) (g m : Nat) (bs : List UInt8) (e : Ending) (w' : World) : Prop :=
  ∃ A c, e = .returned (.slice A m c) ∧ Byt w' g A m (bs.take m) ∧ Rdr w' g (bs.drop m) false ∧ w.grownBy w' (some g) ∧ w'.heap.size = w.heap.size

theorem take_fin {w : World} {g m n cap : Nat} {A X : Option Addr} {bs : List UInt8} (h2 : w.cell? ⟨g, 1, none⟩ = some (.bool false)) (h1 : w.cell? ⟨g, 0, none⟩ = some (.slice A n cap)) (h3 : w.frozen? ⟨g, 0, none⟩ = false) (h4 : w.frozen? ⟨g, 1, none⟩ = false)
    (h5 : n ≤ cap) (h6 : cap ≤ 9223372036854775807) (h7 : Byt w g A n bs) (hm : m ≤ n) (hX : X = if cap = m then A else A.map (·.add m)) :
    ∀ w2, w2 = w.setCell ⟨g, 0, none⟩ (.slice X (n - m) (cap - m)) → Byt w2 g A m (bs.take m) ∧ Rdr w2 g (bs.drop m) false ∧ w.grownBy w2 (some g) ∧ w2.heap.size = w.heap.size := by
  rintro _ rfl
  have hb : Byt (w.setCell ⟨g, 0, none⟩ (.slice X (n - m) (cap - m))) g A n bs := h7.setCell (p := ⟨g, 0, none⟩) (Nat.le_refl _) _
  refine ⟨hb.take hm, ⟨X, n - m, cap - m, ?_, ?_, ?_, ?_, by omega, by omega, ?_⟩, only_set _ _ _ _, by simp [World.setCell]⟩
  · exact World.cell?_setCell_same _ _ _ h1
  · exact (World.cell?_setCell_other _ _ _ _ (fun e => by injection e; omega)).trans h2
  · rw [World.frozen?_setCell]; exact h3
  · rw [World.frozen?_setCell]; exact h4
  · have := hb.cut hm h5
    rw [← hX] at this
    exact this

set_option maxHeartbeats 1000000 in
theorem take_ok (g m : Nat) (bs : List UInt8) (w : World) (hr : Rdr w g bs false) (hm : m ≤ bs.length) :
    Calls Tryd.prog 59 #[.pointer (some ⟨g, 0, none⟩), .int .i64 (m : Int)] w (TakeOk w g m bs) := by
  have hg := hr.lt
  obtain ⟨A, n, cap, h1, h2, h3, h4, h5, h6, h7⟩ := hr
  rw [h7.len] at hm
  have H7 := Lib.hid h7
  have HG := Lib.hid hg
  clear h7 hg
  by_cases hcm : cap = m
  · obtain rfl : n = m := by omega
    obtain rfl := hcm
    go_enter Tryd.func59, Tryd.ntmps59
    go_wp2
    go_ret
    refine ⟨A, _, rfl, ?_⟩
    exact take_fin h2 h1 h3 h4 h5 h6 H7.out (Nat.le_refl _) rfl _ (by simp)
  · have hcm' : ¬ cap = m := hcm
    go_enter Tryd.func59, Tryd.ntmps59
    go_wp2
    go_ret
    refine ⟨A, _, rfl, ?_⟩
    exact take_fin h2 h1 h3 h4 h5 h6 H7.out hm rfl _ (by simp [hcm])

/-- What take leaves when it can't read. -/
def TakeBad (w : World) (g : Nat) (bs : List UInt8) (e : Ending) (w' : World) : Prop :=
  e = .returned (.slice none 0 0) ∧ Rdr w' g bs true ∧ w.grownBy w' (some g) ∧ w'.heap.size = w.heap.size

theorem bad_fin {w : World} {g : Nat} {bs : List UInt8} {bad : Bool} (hr : Rdr w g bs bad) :
    ∀ w2, w2 = w.setCell ⟨g, 1, none⟩ (.bool true) → Rdr w2 g bs true ∧ w.grownBy w2 (some g) ∧ w2.heap.size = w.heap.size := by
  rintro _ rfl
  obtain ⟨A, n, cap, h1, h2, h3, h4, h5, h6, h7⟩ := hr
  refine ⟨⟨A, n, cap, ?_, World.cell?_setCell_same _ _ _ h2, ?_, ?_, h5, h6, h7.setCell (p := ⟨g, 1, none⟩) (Nat.le_refl _) _⟩, only_set _ _ _ _, by simp [World.setCell]⟩
  · exact (World.cell?_setCell_other _ _ _ _ (fun e => by injection e; omega)).trans h1
  · rw [World.frozen?_setCell]; exact h3
  · rw [World.frozen?_setCell]; exact h4

set_option maxHeartbeats 1000000 in
theorem take_bad (g : Nat) (m : Int) (bs : List UInt8) (bad : Bool) (w : World) (hr : Rdr w g bs bad) (hm : bad = true ∨ m < 0 ∨ (bs.length : Int) < m) :
    Calls Tryd.prog 59 #[.pointer (some ⟨g, 0, none⟩), .int .i64 m] w (TakeBad w g bs) := by
  have HR := Lib.hid hr
  obtain ⟨A, n, cap, h1, h2, h3, h4, h5, h6, h7⟩ := hr
  rw [h7.len] at hm
  clear h7
  cases bad
  · have hm' : m < 0 ∨ (n : Int) < m := by simpa using hm
    clear hm
    rcases hm' with h | h
    · go_enter Tryd.func59, Tryd.ntmps59
      go_wp2
      go_ret
      exact ⟨rfl, bad_fin HR.out _ (by simp)⟩
    · go_enter Tryd.func59, Tryd.ntmps59
      go_wp2
      go_ret
      exact ⟨rfl, bad_fin HR.out _ (by simp)⟩
  · clear hm
    go_enter Tryd.func59, Tryd.ntmps59
    go_wp2
    go_ret
    exact ⟨rfl, bad_fin HR.out _ (by simp)⟩

set_option maxHeartbeats 1000000 in
theorem take_nil (m : Int) (w : World) :
    Calls Tryd.prog 59 #[.pointer none, .int .i64 m] w fun e w' => e = .returned (.slice none 0 0) ∧ w = w' := by
  go_enter Tryd.func59, Tryd.ntmps59
  go_wp2
  go_ret
  exact ⟨rfl, rfl⟩


/-- What Rest returns. -/
def restS (bs : List UInt8) (bad : Bool) : Nat := if bad then 0 else bs.length

/-- A new reader. -/
def NewR (w : World) (bs : List UInt8) (e : Ending) (w' : World) : Prop :=
  ∃ g, e = .returned (.pointer (some ⟨g, 0, none⟩)) ∧ Rdr w' g bs false ∧ w.heap.size ≤ g ∧ Below w.heap.size w w'
set_option maxHeartbeats 1000000 in
theorem newReader_any (bs : List UInt8) (A : Option Addr) (n cap B : Nat) (w : World) (hb : Byt w B A n bs) (hn : n ≤ 1000000) (hB : B ≤ w.heap.size) :
    Calls Tryd.prog 36 #[.slice A n cap] w (NewR w bs) := by
  have CL := Lib.hid (clone_any bs A n cap B w hb (by omega) hB)
  clear hb
  go_enter Tryd.func36, Tryd.ntmps36
  go_wp2_with (go_at_call 52; refine CL.out.mono ?_; rintro e w1 ⟨A1, c1, rfl, hown, hbel⟩; have HO := Lib.hid hown; have HW := Lib.hid hbel; clear hown hbel)
  go_ret
  obtain ⟨_, _, hv, hc1, hc2⟩ := HO.out.form
  injection hv with hv1 hv2 hv3
  refine ⟨w1.heap.size, rfl, ⟨A1, n, c1, ?_, ?_, ?_, ?_, by omega, by omega, HO.out.byt.alloc (Nat.le_refl _) _⟩, HW.out.size, HW.out.alloc HW.out.size _⟩
  · exact cell_of_row _ _ _ _ _ _ (heap_alloc_new w1 _)
  · exact cell_of_row _ _ _ _ _ _ (heap_alloc_new w1 _)
  · exact frozen_of_row _ _ _ _ _ (heap_alloc_new w1 _)
  · exact frozen_of_row _ _ _ _ _ (heap_alloc_new w1 _)
end Go.Proofs.YthjnbdbbeidhgaaDoor
