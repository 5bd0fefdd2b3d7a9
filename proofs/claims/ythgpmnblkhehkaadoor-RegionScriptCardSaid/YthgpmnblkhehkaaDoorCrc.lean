/- The plain law of CRC-32C: the table's step is eight steps of the polynomial; parts, combination, bursts. No program in sight. -/
import Derived.Below
namespace Go.Proofs.YthgpmnblkhehkaaDoor.Crc

/-- One step of the polynomial, on any natural number. -/
def s1 (c : Nat) : Nat := if c % 2 = 1 then (c / 2) ^^^ 2197175160 else c / 2

theorem xor_mod2 (a b : Nat) : (a ^^^ b) % 2 = (a % 2 + b % 2) % 2 := by
  have h := Nat.testBit_xor a b 0
  simp only [Nat.testBit_zero] at h
  rcases Nat.mod_two_eq_zero_or_one a with ha | ha <;> rcases Nat.mod_two_eq_zero_or_one b with hb | hb <;> rcases Nat.mod_two_eq_zero_or_one (a ^^^ b) with hc | hc <;> simp_all

theorem xor_div2 (a b : Nat) : (a ^^^ b) / 2 = (a / 2) ^^^ (b / 2) := by
  have := Nat.shiftRight_xor_distrib (i := 1) (a := a) (b := b)
  simpa [Nat.shiftRight_eq_div_pow] using this

theorem xor_div (k a b : Nat) : (a ^^^ b) / 2 ^ k = (a / 2 ^ k) ^^^ (b / 2 ^ k) := by
  have := Nat.shiftRight_xor_distrib (i := k) (a := a) (b := b)
  simpa [Nat.shiftRight_eq_div_pow] using this

theorem s1_xor (a b : Nat) : s1 (a ^^^ b) = s1 a ^^^ s1 b := by
  unfold s1
  rw [xor_mod2, xor_div2]
  rcases Nat.mod_two_eq_zero_or_one a with ha | ha <;> rcases Nat.mod_two_eq_zero_or_one b with hb | hb <;> simp [ha, hb]
  · rw [Nat.xor_assoc]
  · rw [Nat.xor_assoc, Nat.xor_assoc]; congr 1; exact Nat.xor_comm _ _
  · rw [Nat.xor_assoc, Nat.xor_comm (b / 2), ← Nat.xor_assoc 2197175160, Nat.xor_self, Nat.zero_xor]

/-- n steps. -/
def sn : Nat → Nat → Nat
  | 0, c => c
  | n + 1, c => sn n (s1 c)

theorem sn_xor (n a b : Nat) : sn n (a ^^^ b) = sn n a ^^^ sn n b := by
  induction n generalizing a b with
  | zero => rfl
  | succ n ih => simp only [sn]; rw [s1_xor, ih]

theorem sn_add (m n c : Nat) : sn (m + n) c = sn n (sn m c) := by
  induction m generalizing c with
  | zero => simp [sn]
  | succ m ih => rw [Nat.succ_add]; simp only [sn]; exact ih _

theorem s1_even (c : Nat) (h : c % 2 = 0) : s1 c = c / 2 := by simp [s1, h]

theorem sn_high (n c : Nat) (h : c % 2 ^ n = 0) : sn n c = c / 2 ^ n := by
  induction n generalizing c with
  | zero => simp [sn]
  | succ n ih =>
    have h2 : c % 2 = 0 := by
      have : c % 2 ^ (n + 1) % 2 = c % 2 := by rw [Nat.pow_succ, Nat.mod_mul_left_mod]
      omega
    simp only [sn]
    rw [s1_even c h2, ih]
    · rw [Nat.div_div_eq_div_mul, Nat.pow_succ, Nat.mul_comm]
    · rw [Nat.pow_succ, Nat.mul_comm, Nat.mod_mul] at h
      have : 0 < 2 ^ n := Nat.two_pow_pos n
      omega

/-- What four bits add. -/
def tab : List Nat := [0, 274646895, 549293790, 820201905, 1098587580, 1361435347, 1640403810, 1905808397, 2197175160, 2460548119, 2722870694, 2987750089, 3280807620, 3553878443, 3811616794, 4084100981]

theorem tab_eq : ∀ i, i < 16 → sn 4 i = tab.getD i 0 := by decide
theorem tab_lt : ∀ i, i < 16 → tab.getD i 0 < 4294967296 := by decide

theorem split_xor (k c : Nat) : c = (c / 2 ^ k * 2 ^ k) ^^^ (c % 2 ^ k) := by
  have h := Nat.div_add_mod c (2 ^ k)
  have h2 : c % 2 ^ k < 2 ^ k := Nat.mod_lt _ (Nat.two_pow_pos k)
  have h3 := Nat.shiftLeft_add_eq_or_of_lt h2 (c / 2 ^ k)
  have h4 : (c / 2 ^ k) <<< k ||| c % 2 ^ k = (c / 2 ^ k) <<< k ^^^ c % 2 ^ k := by
    apply Nat.eq_of_testBit_eq
    intro i
    simp only [Nat.testBit_or, Nat.testBit_xor, Nat.testBit_shiftLeft, Nat.testBit_mod_two_pow]
    by_cases hi : i < k
    · simp [hi, Nat.not_le.2 hi]
    · simp [hi]
  rw [Nat.shiftLeft_eq] at h3 h4
  rw [Nat.mul_comm] at h
  rw [← h4, ← h3]; exact h.symm

theorem sn4 (c : Nat) : sn 4 c = (c / 16) ^^^ tab.getD (c % 16) 0 := by
  have h := congrArg (sn 4) (split_xor 4 c)
  rw [sn_xor, sn_high 4 (c / 2 ^ 4 * 2 ^ 4) (by simp)] at h
  rw [h, tab_eq _ (Nat.mod_lt _ (by decide))]
  congr 1
  simp

/-- The program's step. -/
def step (c x : Nat) : Nat :=
  let d := c ^^^ x
  let e := (d / 16) ^^^ tab.getD (d % 16) 0
  (e / 16) ^^^ tab.getD (e % 16) 0

theorem step_eq (c x : Nat) : step c x = sn 8 (c ^^^ x) := by
  show (_ : Nat) ^^^ _ = _
  rw [show (8 : Nat) = 4 + 4 from rfl, sn_add, sn4 (sn 4 _), sn4]

/-- The reference's bit: state c, byte b, bit k. -/
def rbit (c b k : Nat) : Nat := if (c ^^^ (b / 2 ^ k)) % 2 = 1 then (c / 2) ^^^ 2197175160 else c / 2

/-- After k bits. -/
def rbits (c b : Nat) : Nat → Nat
  | 0 => c
  | k + 1 => rbit (rbits c b k) b k

theorem rbits_inv (c b k : Nat) : rbits c b k ^^^ (b / 2 ^ k) = sn k (c ^^^ b) := by
  induction k with
  | zero => simp [rbits, sn]
  | succ k ih =>
    rw [show k + 1 = k + 1 from rfl, sn_add k 1, ← ih]
    simp only [rbits, sn, rbit, s1, xor_div2]
    have e : b / 2 ^ k / 2 = b / 2 ^ (k + 1) := by rw [Nat.div_div_eq_div_mul, Nat.pow_succ]
    rw [e]
    split
    · rw [Nat.xor_assoc, Nat.xor_assoc]; congr 1; exact Nat.xor_comm _ _
    · rfl

theorem rbits8 (c b : Nat) (hb : b < 256) : rbits c b 8 = step c b := by
  have h := rbits_inv c b 8
  rw [show b / 2 ^ 8 = 0 by omega, Nat.xor_zero] at h
  rw [h, step_eq]

theorem xor_lt (a b : Nat) (ha : a < 4294967296) (hb : b < 4294967296) : a ^^^ b < 4294967296 := Nat.xor_lt_two_pow (n := 32) ha hb

theorem s1_lt (c : Nat) (h : c < 4294967296) : s1 c < 4294967296 := by
  unfold s1; split
  · exact xor_lt _ _ (by omega) (by decide)
  · omega
theorem sn_lt (n c : Nat) (h : c < 4294967296) : sn n c < 4294967296 := by
  induction n generalizing c with
  | zero => exact h
  | succ n ih => exact ih _ (s1_lt c h)
theorem step_lt (c x : Nat) (h : c < 4294967296) (hx : x < 256) : step c x < 4294967296 := by
  rw [step_eq]; exact sn_lt _ _ (xor_lt _ _ h (by omega))
theorem rbit_lt (c b k : Nat) (h : c < 4294967296) : rbit c b k < 4294967296 := by
  unfold rbit; split
  · exact xor_lt _ _ (by omega) (by decide)
  · omega
theorem rbits_lt (c b k : Nat) (h : c < 4294967296) : rbits c b k < 4294967296 := by
  induction k with
  | zero => exact h
  | succ k ih => exact rbit_lt _ _ _ ih

/-- The state behind a message. -/
def run (c : Nat) (l : List UInt8) : Nat := l.foldl (fun c b => step c b.toNat) c
theorem run_lt (c : Nat) (l : List UInt8) (h : c < 4294967296) : run c l < 4294967296 := by
  induction l generalizing c with
  | nil => exact h
  | cons b l ih => exact ih _ (step_lt _ _ h b.toNat_lt)
theorem run_app (c : Nat) (a b : List UInt8) : run c (a ++ b) = run (run c a) b := by simp [run]
theorem run_snoc (c : Nat) (l : List UInt8) (b : UInt8) : run c (l ++ [b]) = step (run c l) b.toNat := by simp [run]
theorem run_take (c : Nat) (l : List UInt8) (k : Nat) (h : k < l.length) : run c (l.take (k + 1)) = step (run c (l.take k)) l[k].toNat := by
  rw [List.take_succ_eq_append_getElem h, run_snoc]

/-- The complement. -/
def inv (c : Nat) : Nat := 4294967295 - c
theorem inv_lt (c : Nat) : inv c < 4294967296 := by unfold inv; omega
theorem inv_inv (c : Nat) (h : c < 4294967296) : inv (inv c) = c := by unfold inv; omega
theorem inv_xor (c : Nat) (h : c < 4294967296) : inv c = c ^^^ 4294967295 := by
  apply Nat.eq_of_testBit_eq
  intro i
  have e : inv c = 2 ^ 32 - (c + 1) := by unfold inv; omega
  rw [e, Nat.testBit_two_pow_sub_succ h, Nat.testBit_xor, show (4294967295 : Nat) = 2 ^ 32 - 1 from rfl, Nat.testBit_two_pow_sub_one]
  by_cases hi : i < 32
  · simp [hi]
  · have : c.testBit i = false := Nat.testBit_lt_two_pow (Nat.lt_of_lt_of_le h (by
      calc (4294967296 : Nat) = 2 ^ 32 := rfl
        _ ≤ 2 ^ i := Nat.pow_le_pow_right (by decide) (by omega)))
    simp [hi, this]

/-- Update and Sum. -/
def upd (c : Nat) (l : List UInt8) : Nat := inv (run (inv c) l)
def sum (l : List UInt8) : Nat := upd 0 l
theorem upd_lt (c : Nat) (l : List UInt8) : upd c l < 4294967296 := inv_lt _
theorem sum_lt (l : List UInt8) : sum l < 4294967296 := inv_lt _
theorem upd_parts (c : Nat) (a b : List UInt8) : upd (upd c a) b = upd c (a ++ b) := by
  unfold upd
  rw [inv_inv _ (run_lt _ _ (inv_lt _)), run_app]
theorem run_xor (c d : Nat) (l : List UInt8) : run (c ^^^ d) l = run c l ^^^ sn (8 * l.length) d := by
  induction l generalizing c d with
  | nil => simp [run, sn]
  | cons b l ih =>
    have h1 : step (c ^^^ d) b.toNat = step c b.toNat ^^^ sn 8 d := by
      rw [step_eq, step_eq, ← sn_xor]
      congr 1
      rw [Nat.xor_assoc, Nat.xor_comm d, ← Nat.xor_assoc]
    show run (step (c ^^^ d) b.toNat) l = run (step c b.toNat) l ^^^ _
    rw [h1, ih, List.length_cons, Nat.mul_succ, Nat.add_comm, sn_add]
theorem combine (a b : List UInt8) : sn (8 * b.length) (sum a) ^^^ sum b = sum (a ++ b) := by
  have h1 : run (inv 0) (a ++ b) = sn (8 * b.length) (sum a) ^^^ run (inv 0) b := by
    have e : run (inv 0) a = inv 0 ^^^ sum a := by
      have h2 : sum a = run (inv 0) a ^^^ inv 0 := inv_xor _ (run_lt _ _ (inv_lt 0))
      rw [h2, Nat.xor_comm (run (inv 0) a), ← Nat.xor_assoc, Nat.xor_self, Nat.zero_xor]
    rw [run_app, e, run_xor, Nat.xor_comm]
  show _ = inv (run (inv 0) (a ++ b))
  rw [h1, inv_xor _ (xor_lt _ _ (sn_lt _ _ (sum_lt a)) (run_lt _ _ (inv_lt 0))), Nat.xor_assoc]
  congr 1
  exact inv_xor _ (run_lt _ _ (inv_lt 0))
theorem upd_sum (a b : List UInt8) : upd (sum a) b = sum (a ++ b) := upd_parts 0 a b
end Go.Proofs.YthgpmnblkhehkaaDoor.Crc
