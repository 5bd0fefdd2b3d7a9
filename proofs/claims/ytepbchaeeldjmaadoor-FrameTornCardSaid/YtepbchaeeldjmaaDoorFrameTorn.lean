/- The walk of the law FrameTorn. -/
import Derived.Test.YtepbchaeeldjmaaDoorTornB
namespace Go.Proofs.YtepbchaeeldjmaaDoor
open Go.RowKit

theorem frameTorn_any (k s t : Int) (bs : List UInt8) (A : Option Addr) (n cap : Nat) (pos : Int) (x0 x1 x2 x3 : UInt8) (w : World) (ht : TabAt w) (h0 : 0 < w.heap.size) (hb : Byt w w.heap.size A n bs) (hn : n ≤ cap) (hcap : cap ≤ 9223372036854775807) (hs : s ≤ 9223372036854775807) :
    Calls Tryd.prog 6 #[.agg #[.int .i64 k, .int .i64 s, .int .i64 t, .slice A n cap, .int .i64 pos, .int .u8 (x0.toNat : Int), .int .u8 (x1.toNat : Int), .int .u8 (x2.toNat : Int), .int .u8 (x3.toNat : Int)]] w fun e w' => e = .returned (.bool true) ∧ Below w.heap.size w w' := by
  have HT : Hid (∀ w', Below w.heap.size w w' → TabAt w' ∧ 0 < w'.heap.size) := fun w' hw => ⟨ht.below hw h0, Nat.lt_of_lt_of_le h0 hw.size⟩
  obtain ⟨m, hmin, hmn, hm59, _, _⟩ := min_pick n 59
  have HB : Hid (∀ w', Below w.heap.size w w' → Byt w' w.heap.size A m (bs.take m)) := fun w' hw => (hb.take hmn).below hw
  have hpl : (bs.take m).length = m := (hb.take hmn).len
  obtain ⟨p, hp⟩ : ∃ p, bs.take m = p := ⟨_, rfl⟩
  rw [hp] at HB hpl
  cases hm : may k s t
  · exact frameTorn_err k s t p A n m cap pos x0 x1 x2 x3 w HT HB hmin hmn hm59 hn hcap hs (by show encS _ _ _ _ = _; unfold encS; rw [if_neg (by rw [hm]; decide)])
  · have hp59 : p.length ≤ 59 := by omega
    have HE : Hid (encS k s t p = (frame k.toNat s.toNat t.toNat p, 0)) := by
      show encS _ _ _ _ = _
      unfold encS
      rw [if_pos hm, if_pos hp59]
    have heq : ∀ w : World, (Op.equalIn 10000 36 (.agg #[.int .u8 (x0.toNat : Int), .int .u8 (x1.toNat : Int), .int .u8 (x2.toNat : Int), .int .u8 (x3.toNat : Int)]) (.agg #[.int .u8 0, .int .u8 0, .int .u8 0, .int .u8 0])).run Tryd.prog w =
        .ok (decide (x0 = 0 ∧ x1 = 0 ∧ x2 = 0 ∧ x3 = 0)) w := by
      obtain ⟨i0, hi, hz0, hz1, hz2⟩ := info_parts Tryd.u8w.info
      intro w
      rw [run_equalIn_arr4 w 9998 Tryd.underlying36 Tryd.underlying5 hi hz1]
      congr 1
      have hc : ∀ x : UInt8, ((x.toNat : Int) == 0) = decide (x = 0) := fun x => by
        by_cases h : x = 0
        · subst h; rfl
        · have : x.toNat ≠ 0 := fun h' => h (UInt8.toNat_inj.1 h')
          simp [h]; omega
      rw [hc, hc, hc, hc]
      simp
    by_cases hx : x0 = 0 ∧ x1 = 0 ∧ x2 = 0 ∧ x3 = 0
    · rw [decide_eq_true hx] at heq
      exact frameTorn_zero k s t p A n m cap pos x0 x1 x2 x3 w HT HB hmin hmn hm59 hn hcap hs _ HE (frame_len hp59) heq
    · rw [decide_eq_false hx] at heq
      obtain ⟨p1, p2, q, p3, p4⟩ := torn_pos pos
      obtain ⟨a, ha, hqa⟩ : ∃ a : Nat, (a + 4 ≤ 60 ∨ a = 60) ∧ ((q ≠ 57 ∧ a = q) ∨ (q = 57 ∧ a = 60)) := by
        by_cases h : q = 57
        · exact ⟨60, .inr rfl, .inr ⟨h, rfl⟩⟩
        · exact ⟨q, .inl (by omega), .inl ⟨h, rfl⟩⟩
      exact frameTorn_burst k s t p A n m cap pos x0 x1 x2 x3 w HT HB hmin hmn hm59 hn hcap hs _ HE (frame_len hp59) heq q a p1 p2 p3 p4 (by omega) hqa (torn hp59 a ha x0 x1 x2 x3 hx)
end Go.Proofs.YtepbchaeeldjmaaDoor
