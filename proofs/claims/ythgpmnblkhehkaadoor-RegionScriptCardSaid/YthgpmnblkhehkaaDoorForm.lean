/- superblock.Form and the reference's Form: a layout is well-formed. -/
import Derived.Test.YthgpmnblkhehkaaDoorRows
import Derived.Lib.Hide
import Derived.WalkKit
import Derived.WalkSpells
import Derived.WalkLawsBesides
import Derived.Deep.QuietTactic
import Derived.BigQuiet
namespace Go.Proofs.YthgpmnblkhehkaaDoor
open Go.RowKit

/-- A power of two from 2 to 2048. -/
def pow2B (n : Nat) : Bool := n == 2 || n == 4 || n == 8 || n == 16 || n == 32 || n == 64 || n == 128 || n == 256 || n == 512 || n == 1024 || n == 2048
theorem pow2_land : ∀ n, n < 2049 → 2 ≤ n → ((n &&& (n - 1) == 0) = pow2B n) := by decide +kernel

/-- Well-formed. -/
def form (a b c d : Int) : Bool := decide (1 ≤ a ∧ a ≤ 4294967295 ∧ (b = 1 ∨ b = 2) ∧ 2 ≤ c ∧ c ≤ 2048 ∧ pow2B c.toNat = true ∧ 4 ≤ d ∧ d ≤ 16)
theorem form_true {a b c d : Int} (h : form a b c d = true) : 1 ≤ a ∧ a ≤ 4294967295 ∧ (b = 1 ∨ b = 2) ∧ 2 ≤ c ∧ c ≤ 2048 ∧ pow2B c.toNat = true ∧ 4 ≤ d ∧ d ≤ 16 := of_decide_eq_true h

theorem land_i64 (n : Nat) (h1 : 2 ≤ n) (h2 : n ≤ 2048) : bits .and .i64 (n : Int) ((n : Int) - 1) = ((n &&& (n - 1) : Nat) : Int) := by
  have h3 : n &&& (n - 1) < 2 ^ 63 := Nat.and_lt_two_pow _ (by omega)
  have e : ∀ a : Nat, a < 9223372036854775808 → (BitVec.ofInt 64 (a : Int)).toNat = a := fun a ha => by
    rw [BitVec.ofInt_natCast, BitVec.toNat_ofNat]; exact Nat.mod_eq_of_lt (by omega)
  rw [show (n : Int) - 1 = ((n - 1 : Nat) : Int) from by omega]
  show IntKind.i64.wrap ((BitVec.ofInt 64 (n : Int) &&& BitVec.ofInt 64 ((n - 1 : Nat) : Int)).toNat : Int) = _
  rw [BitVec.toNat_and, e _ (by omega), e _ (by omega), IntKind.wrap_i64]
  omega

/-- One way through a walk of Form. -/
theorem land_yes (n : Int) (h1 : 2 ≤ n) (h2 : n ≤ 2048) (h : pow2B n.toNat = true) : (bits .and .i64 n (n - 1) == 0) = true := by
  obtain ⟨m, rfl⟩ := Int.eq_ofNat_of_zero_le (by omega : 0 ≤ n)
  rw [land_i64 m (by omega) (by omega)]
  have := pow2_land m (by omega) (by omega)
  rw [Int.toNat_natCast] at h
  rw [h] at this
  have h0 : m &&& (m - 1) = 0 := by simpa using this
  rw [h0]; rfl
theorem land_no (n : Int) (h1 : 2 ≤ n) (h2 : n ≤ 2048) (h : pow2B n.toNat = false) : (bits .and .i64 n (n - 1) == 0) = false := by
  obtain ⟨m, rfl⟩ := Int.eq_ofNat_of_zero_le (by omega : 0 ≤ n)
  rw [land_i64 m (by omega) (by omega)]
  have := pow2_land m (by omega) (by omega)
  rw [Int.toNat_natCast] at h
  rw [h] at this
  have h0 : m &&& (m - 1) ≠ 0 := by simpa using this
  simp only [beq_eq_false_iff_ne, ne_eq]
  omega

set_option maxHeartbeats 1000000 in
theorem form_any (a b c d : Int) (ha : -9223372036854775808 ≤ a ∧ a ≤ 9223372036854775807) (hb : -9223372036854775808 ≤ b ∧ b ≤ 9223372036854775807) (hc : -9223372036854775808 ≤ c ∧ c ≤ 9223372036854775807) (hd : -9223372036854775808 ≤ d ∧ d ≤ 9223372036854775807) (w : World) :
    Calls Tryd.prog 29 #[.agg #[.int .i64 a, .int .i64 b, .int .i64 c, .int .i64 d]] w fun e w' => e = .returned (.bool (form a b c d)) ∧ Below w.heap.size w w' := by
  have no : ¬ (1 ≤ a ∧ a ≤ 4294967295 ∧ (b = 1 ∨ b = 2) ∧ 2 ≤ c ∧ c ≤ 2048 ∧ pow2B c.toNat = true ∧ 4 ≤ d ∧ d ≤ 16) → form a b c d = false := fun h => decide_eq_false h
  obtain ⟨f, hf⟩ : ∃ f, form a b c d = f := ⟨_, rfl⟩
  rw [hf] at no ⊢
  have NO := Lib.hid no
  have HF := Lib.hid hf
  clear no hf
  rcases Int.lt_or_le a 1 with h | h
  · go_enter Tryd.func29, Tryd.ntmps29; go_wp2; go_ret; exact ⟨by rw [NO.out (by omega)]; rfl, (Below.refl _ _).alloc (Nat.le_refl _) _⟩
  rcases Int.lt_or_le 4294967295 a with h | h
  · go_enter Tryd.func29, Tryd.ntmps29; go_wp2; go_ret; exact ⟨by rw [NO.out (by omega)]; rfl, (Below.refl _ _).alloc (Nat.le_refl _) _⟩
  by_cases hb12 : ¬ b = 1 ∧ ¬ b = 2
  · obtain ⟨hb1, hb2⟩ := hb12
    go_enter Tryd.func29, Tryd.ntmps29; go_wp2; go_ret; exact ⟨by rw [NO.out (by omega)]; rfl, (Below.refl _ _).alloc (Nat.le_refl _) _⟩
  obtain rfl | rfl : b = 1 ∨ b = 2 := by omega
  · clear hb12
    rcases Int.lt_or_le c 2 with h | h
    · go_enter Tryd.func29, Tryd.ntmps29; go_wp2; go_ret; exact ⟨by rw [NO.out (by omega)]; rfl, (Below.refl _ _).alloc (Nat.le_refl _) _⟩
    rcases Int.lt_or_le 2048 c with h | h
    · go_enter Tryd.func29, Tryd.ntmps29; go_wp2; go_ret; exact ⟨by rw [NO.out (by omega)]; rfl, (Below.refl _ _).alloc (Nat.le_refl _) _⟩
    cases hp : pow2B c.toNat
    · have hl := land_no c (by omega) (by omega) hp
      have HN := Lib.hid (NO.out (by rw [hp]; simp))
      clear hp
      go_enter Tryd.func29, Tryd.ntmps29; go_wp2; go_ret; exact ⟨by rw [HN.out]; rfl, (Below.refl _ _).alloc (Nat.le_refl _) _⟩
    have hl := land_yes c (by omega) (by omega) hp
    have HP := Lib.hid hp
    clear hp
    rcases Int.lt_or_le d 4 with h | h
    · go_enter Tryd.func29, Tryd.ntmps29; go_wp2; go_ret; exact ⟨by rw [NO.out (by omega)]; rfl, (Below.refl _ _).alloc (Nat.le_refl _) _⟩
    rcases Int.lt_or_le 16 d with h | h
    · have HD : Hid (decide (d ≤ 16) = false) := by show _ = _; simp only [decide_eq_false_iff_not]; omega
      go_enter Tryd.func29, Tryd.ntmps29; go_wp2; go_ret; exact ⟨by rw [NO.out (by omega)]; exact congrArg (fun b => Ending.returned (Value.bool b)) HD.out, (Below.refl _ _).alloc (Nat.le_refl _) _⟩
    have YES : Hid (f = true) := by rw [← HF.out]; exact decide_eq_true ⟨by omega, by omega, by simp, by omega, by omega, HP.out, by omega, by omega⟩
    go_enter Tryd.func29, Tryd.ntmps29; go_wp2; go_ret; exact ⟨by rw [YES.out]; rfl, (Below.refl _ _).alloc (Nat.le_refl _) _⟩
  · clear hb12
    rcases Int.lt_or_le c 2 with h | h
    · go_enter Tryd.func29, Tryd.ntmps29; go_wp2; go_ret; exact ⟨by rw [NO.out (by omega)]; rfl, (Below.refl _ _).alloc (Nat.le_refl _) _⟩
    rcases Int.lt_or_le 2048 c with h | h
    · go_enter Tryd.func29, Tryd.ntmps29; go_wp2; go_ret; exact ⟨by rw [NO.out (by omega)]; rfl, (Below.refl _ _).alloc (Nat.le_refl _) _⟩
    cases hp : pow2B c.toNat
    · have hl := land_no c (by omega) (by omega) hp
      have HN := Lib.hid (NO.out (by rw [hp]; simp))
      clear hp
      go_enter Tryd.func29, Tryd.ntmps29; go_wp2; go_ret; exact ⟨by rw [HN.out]; rfl, (Below.refl _ _).alloc (Nat.le_refl _) _⟩
    have hl := land_yes c (by omega) (by omega) hp
    have HP := Lib.hid hp
    clear hp
    rcases Int.lt_or_le d 4 with h | h
    · go_enter Tryd.func29, Tryd.ntmps29; go_wp2; go_ret; exact ⟨by rw [NO.out (by omega)]; rfl, (Below.refl _ _).alloc (Nat.le_refl _) _⟩
    rcases Int.lt_or_le 16 d with h | h
    · have HD : Hid (decide (d ≤ 16) = false) := by show _ = _; simp only [decide_eq_false_iff_not]; omega
      go_enter Tryd.func29, Tryd.ntmps29; go_wp2; go_ret; exact ⟨by rw [NO.out (by omega)]; exact congrArg (fun b => Ending.returned (Value.bool b)) HD.out, (Below.refl _ _).alloc (Nat.le_refl _) _⟩
    have YES : Hid (f = true) := by rw [← HF.out]; exact decide_eq_true ⟨by omega, by omega, by simp, by omega, by omega, HP.out, by omega, by omega⟩
    go_enter Tryd.func29, Tryd.ntmps29; go_wp2; go_ret; exact ⟨by rw [YES.out]; rfl, (Below.refl _ _).alloc (Nat.le_refl _) _⟩

theorem log_none (c : Int) (h : ∀ k : Nat, k < 12 → c ≠ 2 ^ k) : pow2B c.toNat = false := by
  by_cases h0 : c < 2
  · have : c.toNat < 2 := by omega
    generalize c.toNat = n at this
    match n, this with
    | 0, _ => rfl
    | 1, _ => rfl
  · have h1 := h 1 (by decide); have h2 := h 2 (by decide); have h3 := h 3 (by decide); have h4 := h 4 (by decide); have h5 := h 5 (by decide); have h6 := h 6 (by decide)
    have h7 := h 7 (by decide); have h8 := h 8 (by decide); have h9 := h 9 (by decide); have h10 := h 10 (by decide); have h11 := h 11 (by decide)
    simp only [pow2B, Bool.or_eq_false_iff, beq_eq_false_iff_ne]
    omega
/-- The reference's logarithm: the first k below 12 with 2^k = c, else -1. -/
def logR (c : Int) : Int := if c = 1 then 0 else if c = 2 then 1 else if c = 4 then 2 else if c = 8 then 3 else if c = 16 then 4 else if c = 32 then 5 else if c = 64 then 6 else if c = 128 then 7 else if c = 256 then 8 else if c = 512 then 9 else if c = 1024 then 10 else if c = 2048 then 11 else -1
theorem logR_pow (k : Nat) (hk : k < 12) : logR (2 ^ k) = k := by
  match k, hk with
  | 0, _ => decide
  | 1, _ => decide
  | 2, _ => decide
  | 3, _ => decide
  | 4, _ => decide
  | 5, _ => decide
  | 6, _ => decide
  | 7, _ => decide
  | 8, _ => decide
  | 9, _ => decide
  | 10, _ => decide
  | 11, _ => decide
theorem logR_none (c : Int) (h : ∀ k : Nat, k < 12 → c ≠ 2 ^ k) : logR c = -1 := by
  have h0 := h 0 (by decide); have h1 := h 1 (by decide); have h2 := h 2 (by decide); have h3 := h 3 (by decide); have h4 := h 4 (by decide); have h5 := h 5 (by decide); have h6 := h 6 (by decide)
  have h7 := h 7 (by decide); have h8 := h 8 (by decide); have h9 := h 9 (by decide); have h10 := h 10 (by decide); have h11 := h 11 (by decide)
  unfold logR
  simp at h0 h1 h2 h3 h4 h5 h6 h7 h8 h9 h10 h11
  simp [h0, h1, h2, h3, h4, h5, h6, h7, h8, h9, h10, h11]
theorem logR_form (c : Int) : (2 ≤ c ∧ c ≤ 2048 ∧ pow2B c.toNat = true) ↔ 1 ≤ logR c := by
  by_cases h : ∃ k : Nat, k < 12 ∧ c = 2 ^ k
  · obtain ⟨k, hk, rfl⟩ := h
    rw [logR_pow k hk]
    match k, hk with
    | 0, _ => decide
    | 1, _ => decide
    | 2, _ => decide
    | 3, _ => decide
    | 4, _ => decide
    | 5, _ => decide
    | 6, _ => decide
    | 7, _ => decide
    | 8, _ => decide
    | 9, _ => decide
    | 10, _ => decide
    | 11, _ => decide
  · have h' : ∀ k : Nat, k < 12 → c ≠ 2 ^ k := fun k hk e => h ⟨k, hk, e⟩
    rw [logR_none c h', log_none c h']
    simp
theorem logR_le (c : Int) : -1 ≤ logR c ∧ logR c ≤ 11 := by
  unfold logR
  repeat' split
  all_goals omega

set_option maxHeartbeats 1000000 in
theorem log_any (c : Int) (w : World) :
    Calls Tryd.prog 63 #[.int .i64 c] w fun e w' => e = .returned (.int .i64 (logR c)) ∧ w = w' := by
  go_enter Tryd.func63, Tryd.ntmps63
  go_wp2
  go_loop [3] (fun i => ∃ k : Nat, k ≤ 12 ∧ i = .int .i64 k ∧ Hid (∀ j : Nat, j < k → c ≠ 2 ^ j)) (fun i => 12 - (intOf i).toNat)
  case atStart => exact ⟨0, by omega, rfl, fun j hj => absurd hj (by omega)⟩
  case round =>
    obtain ⟨k, hk, rfl, hno⟩ := hrel
    by_cases hlt : k < 12
    · have hwr : wrap64 ((2 : Int) ^ k) = 2 ^ k := by
        match k, hlt with
        | 0, _ => exact IntWalk.wrap64_in _ ⟨by decide, by decide⟩
        | 1, _ => exact IntWalk.wrap64_in _ ⟨by decide, by decide⟩
        | 2, _ => exact IntWalk.wrap64_in _ ⟨by decide, by decide⟩
        | 3, _ => exact IntWalk.wrap64_in _ ⟨by decide, by decide⟩
        | 4, _ => exact IntWalk.wrap64_in _ ⟨by decide, by decide⟩
        | 5, _ => exact IntWalk.wrap64_in _ ⟨by decide, by decide⟩
        | 6, _ => exact IntWalk.wrap64_in _ ⟨by decide, by decide⟩
        | 7, _ => exact IntWalk.wrap64_in _ ⟨by decide, by decide⟩
        | 8, _ => exact IntWalk.wrap64_in _ ⟨by decide, by decide⟩
        | 9, _ => exact IntWalk.wrap64_in _ ⟨by decide, by decide⟩
        | 10, _ => exact IntWalk.wrap64_in _ ⟨by decide, by decide⟩
        | 11, _ => exact IntWalk.wrap64_in _ ⟨by decide, by decide⟩
      by_cases hc : c = 2 ^ k
      · have hb : (c == wrap64 ((2 : Int) ^ k)) = true := by rw [hwr, hc]; simp
        have HF : Hid (logR c = k) := by rw [hc]; exact logR_pow k hlt
        clear hwr hc
        go_wp2
        go_ret
        exact ⟨by rw [HF.out]; rfl, rfl⟩
      · have hb : (c == wrap64 ((2 : Int) ^ k)) = false := by rw [hwr]; simpa using hc
        have HC := Lib.hid hc
        clear hwr hc
        go_wp2
        go_round
        case rel => exact ⟨k + 1, by omega, by go_num, fun j hj => by
          by_cases hjk : j = k
          · subst hjk; exact HC.out
          · exact hno.out j (by omega)⟩
        case measure => simp [intOf]; omega
    · have hk12 : k = 12 := by omega
      subst hk12
      have HF : Hid (logR c = -1) := logR_none c hno.out
      go_wp2
      go_ret
      exact ⟨by rw [HF.out]; rfl, rfl⟩
end Go.Proofs.YthgpmnblkhehkaaDoor
