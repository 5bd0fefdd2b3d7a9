/- The reference's Form; base and may. -/
import Derived.Test.YthgpmnblkhehkaaDoorForm
namespace Go.Proofs.YthgpmnblkhehkaaDoor
open Go.RowKit

/-- What a call that makes memory leaves of the old one, as the walk wants it. -/
theorem below_cells {W w1 : World} {B : Nat} (hb : Below B W w1) : (∀ b o, b < B → w1.cell? ⟨b, o, none⟩ = W.cell? ⟨b, o, none⟩) ∧ (∀ b o, b < B → w1.frozen? ⟨b, o, none⟩ = W.frozen? ⟨b, o, none⟩) :=
  ⟨fun b o h => hb.cell (p := ⟨b, o, none⟩) h, fun b o h => hb.frozen (p := ⟨b, o, none⟩) h⟩

/-- A 64 bit integer. -/
def I64 (a : Int) : Prop := -9223372036854775808 ≤ a ∧ a ≤ 9223372036854775807

set_option maxHeartbeats 1000000 in
theorem refForm_any (a b c d : Int) (ha : I64 a) (hb : I64 b) (_hc : I64 c) (hd : I64 d) (w : World) :
    Calls Tryd.prog 41 #[.agg #[.int .i64 a, .int .i64 b, .int .i64 c, .int .i64 d]] w fun e w' => e = .returned (.bool (form a b c d)) ∧ Below w.heap.size w w' := by
  unfold I64 at ha hb hd
  have no : ¬ (1 ≤ a ∧ a ≤ 4294967295 ∧ (b = 1 ∨ b = 2) ∧ 1 ≤ logR c ∧ 4 ≤ d ∧ d ≤ 16) → form a b c d = false := fun h => decide_eq_false (fun h' => h ⟨h'.1, h'.2.1, h'.2.2.1, (logR_form c).1 ⟨h'.2.2.2.1, h'.2.2.2.2.1, h'.2.2.2.2.2.1⟩, h'.2.2.2.2.2.2⟩)
  have yes : (1 ≤ a ∧ a ≤ 4294967295 ∧ (b = 1 ∨ b = 2) ∧ 1 ≤ logR c ∧ 4 ≤ d ∧ d ≤ 16) → form a b c d = true := fun h => by
    have h2 := (logR_form c).2 h.2.2.2.1
    exact decide_eq_true ⟨h.1, h.2.1, h.2.2.1, h2.1, h2.2.1, h2.2.2, h.2.2.2.2⟩
  obtain ⟨f, hf⟩ : ∃ f, form a b c d = f := ⟨_, rfl⟩
  rw [hf] at no yes ⊢
  have NO := Lib.hid no
  have YES := Lib.hid yes
  obtain ⟨hl1, hl2⟩ := logR_le c
  clear no yes hf
  rcases Int.lt_or_le a 1 with h | h
  · go_enter Tryd.func41, Tryd.ntmps41; go_wp2_with (go_at_call 63; refine (log_any _ _).mono ?_; rintro e w' ⟨rfl, rfl⟩); go_ret; exact ⟨by rw [NO.out (by omega)]; rfl, (Below.refl _ _).alloc (Nat.le_refl _) _⟩
  rcases Int.lt_or_le 4294967295 a with h | h
  · go_enter Tryd.func41, Tryd.ntmps41; go_wp2_with (go_at_call 63; refine (log_any _ _).mono ?_; rintro e w' ⟨rfl, rfl⟩); go_ret; exact ⟨by rw [NO.out (by omega)]; rfl, (Below.refl _ _).alloc (Nat.le_refl _) _⟩
  by_cases hb12 : ¬ b = 1 ∧ ¬ b = 2
  · obtain ⟨hb1, hb2⟩ := hb12
    go_enter Tryd.func41, Tryd.ntmps41; go_wp2_with (go_at_call 63; refine (log_any _ _).mono ?_; rintro e w' ⟨rfl, rfl⟩); go_ret; exact ⟨by rw [NO.out (by omega)]; rfl, (Below.refl _ _).alloc (Nat.le_refl _) _⟩
  obtain rfl | rfl : b = 1 ∨ b = 2 := by omega
  all_goals
    clear hb12
    rcases Int.lt_or_le (logR c) 1 with h | h
    · go_enter Tryd.func41, Tryd.ntmps41; go_wp2_with (go_at_call 63; refine (log_any _ _).mono ?_; rintro e w' ⟨rfl, rfl⟩); go_ret; exact ⟨by rw [NO.out (by omega)]; rfl, (Below.refl _ _).alloc (Nat.le_refl _) _⟩
    rcases Int.lt_or_le d 4 with h | h
    · go_enter Tryd.func41, Tryd.ntmps41; go_wp2_with (go_at_call 63; refine (log_any _ _).mono ?_; rintro e w' ⟨rfl, rfl⟩); go_ret; exact ⟨by rw [NO.out (by omega)]; rfl, (Below.refl _ _).alloc (Nat.le_refl _) _⟩
    rcases Int.lt_or_le 16 d with h | h
    · have HD : Hid (decide (d ≤ 16) = false) := by show _ = _; simp only [decide_eq_false_iff_not]; omega
      go_enter Tryd.func41, Tryd.ntmps41; go_wp2_with (go_at_call 63; refine (log_any _ _).mono ?_; rintro e w' ⟨rfl, rfl⟩); go_ret; exact ⟨by rw [NO.out (by omega)]; exact congrArg (fun b => Ending.returned (Value.bool b)) HD.out, (Below.refl _ _).alloc (Nat.le_refl _) _⟩
    go_enter Tryd.func41, Tryd.ntmps41; go_wp2_with (go_at_call 63; refine (log_any _ _).mono ?_; rintro e w' ⟨rfl, rfl⟩); go_ret; exact ⟨by rw [YES.out ⟨by omega, by omega, by simp, by omega, by omega, by omega⟩]; rfl, (Below.refl _ _).alloc (Nat.le_refl _) _⟩

/-- A migration may begin from it. -/
def baseB (a b c d : Int) : Bool := form a b c d && decide (a ≤ 4294967293)


end Go.Proofs.YthgpmnblkhehkaaDoor
