/- The plain law of a burst: four adjacent bytes that are changed change the checksum. -/
import Derived.Test.YthgpmnblkhehkaaDoorCrc
namespace Go.Proofs.YthgpmnblkhehkaaDoor.Crc

theorem xor_eq {a b : Nat} (h : a ^^^ b = 0) : a = b := by
  have := congrArg (fun z => a ^^^ z) h
  simp only [← Nat.xor_assoc, Nat.xor_self, Nat.zero_xor, Nat.xor_zero] at this
  exact this.symm
theorem s1_zero (c : Nat) (h : c < 4294967296) (h0 : s1 c = 0) : c = 0 := by
  unfold s1 at h0
  split at h0
  · have e : c / 2 = 2197175160 := xor_eq h0
    omega
  · omega
theorem sn_zero (n c : Nat) (h : c < 4294967296) (h0 : sn n c = 0) : c = 0 := by
  induction n generalizing c with
  | zero => exact h0
  | succ n ih => exact s1_zero c h (ih _ (s1_lt c h) h0)
theorem sn_inj (n a b : Nat) (ha : a < 4294967296) (hb : b < 4294967296) (h : sn n a = sn n b) : a = b := by
  have := sn_zero n (a ^^^ b) (xor_lt _ _ ha hb) (by rw [sn_xor, h, Nat.xor_self])
  exact xor_eq this
theorem run_inj (a b : Nat) (l : List UInt8) (ha : a < 4294967296) (hb : b < 4294967296) (h : run a l = run b l) : a = b := by
  have h2 := run_xor a (a ^^^ b) l
  rw [← Nat.xor_assoc, Nat.xor_self, Nat.zero_xor, ← h] at h2
  have h3 : sn (8 * l.length) (a ^^^ b) = 0 := by
    have := congrArg (fun z => run a l ^^^ z) h2
    simp only [← Nat.xor_assoc, Nat.xor_self, Nat.zero_xor] at this
    exact this.symm
  exact xor_eq (sn_zero _ _ (xor_lt _ _ ha hb) h3)

theorem step_xor (c d b x : Nat) : step (c ^^^ d) (b ^^^ x) = step c b ^^^ step d x := by
  rw [step_eq, step_eq, step_eq, ← sn_xor]
  congr 1
  rw [Nat.xor_assoc, Nat.xor_assoc]
  congr 1
  rw [← Nat.xor_assoc, Nat.xor_comm d, Nat.xor_assoc]

theorem sn8_inv (u z : Nat) (hu : u < 4294967296) (hz : z < 16777216) (h : sn 8 u = z) : u = z * 256 := by
  apply sn_inj 8 u (z * 256) hu (by omega)
  rw [h, sn_high 8 (z * 256) (by omega)]
  omega

theorem small (a b : Nat) (h : b < 256) (z : a * 256 = b) : a = 0 ∧ b = 0 := by omega
theorem four (x0 x1 x2 x3 : Nat) (h0 : x0 < 256) (h1 : x1 < 256) (h2 : x2 < 256) (h3 : x3 < 256)
    (h : step (step (step (step 0 x0) x1) x2) x3 = 0) : x0 = 0 ∧ x1 = 0 ∧ x2 = 0 ∧ x3 = 0 := by
  have l1 := step_lt 0 x0 (by decide) h0
  have l2 := step_lt _ x1 l1 h1
  have l3 := step_lt _ x2 l2 h2
  rw [step_eq _ x3] at h
  have e3 : step (step (step 0 x0) x1) x2 = x3 := xor_eq (sn_zero 8 _ (xor_lt _ _ l3 (by omega)) h)
  rw [step_eq _ x2] at e3
  have e2 := sn8_inv _ _ (xor_lt _ _ l2 (by omega)) (by omega) e3
  have e2' : step (step 0 x0) x1 = (x3 * 256) ^^^ x2 := by
    rw [← e2, Nat.xor_assoc, Nat.xor_self, Nat.xor_zero]
  have b2 : (x3 * 256) ^^^ x2 < 65536 := Nat.xor_lt_two_pow (n := 16) (by omega) (by omega)
  rw [step_eq _ x1] at e2'
  have e1 := sn8_inv _ _ (xor_lt _ _ l1 (by omega)) (by omega) e2'
  have e1' : step 0 x0 = (((x3 * 256) ^^^ x2) * 256) ^^^ x1 := by
    rw [← e1, Nat.xor_assoc, Nat.xor_self, Nat.xor_zero]
  have b1 : (((x3 * 256) ^^^ x2) * 256) ^^^ x1 < 16777216 := Nat.xor_lt_two_pow (n := 24) (by omega) (by omega)
  rw [step_eq, Nat.zero_xor] at e1'
  have e0 := sn8_inv _ _ (by omega) b1 e1'
  have z0 := small _ _ h0 e0.symm
  have z1 := small _ _ h1 (xor_eq z0.1)
  have z2 := small _ _ h2 (xor_eq z1.1)
  exact ⟨z0.2, z1.2, z2.2, z2.1⟩

/-- After k bytes of the burst. -/
def burst (bs : List UInt8) (a : Nat) (x : List UInt8) : Nat → List UInt8
  | 0 => bs
  | k + 1 => (burst bs a x k).set (a + k) (((burst bs a x k).getD (a + k) 0) ^^^ x.getD k 0)
theorem burst_len (bs : List UInt8) (a : Nat) (x : List UInt8) (k : Nat) : (burst bs a x k).length = bs.length := by
  induction k with
  | zero => rfl
  | succ k ih => simp [burst, ih]

theorem burst_four (p s : List UInt8) (m0 m1 m2 m3 x0 x1 x2 x3 : UInt8) :
    burst (p ++ m0 :: m1 :: m2 :: m3 :: s) p.length [x0, x1, x2, x3] 4 = p ++ (m0 ^^^ x0) :: (m1 ^^^ x1) :: (m2 ^^^ x2) :: (m3 ^^^ x3) :: s := by
  simp [burst, List.getD]

theorem cut_four (bs : List UInt8) (a : Nat) (h : a + 4 ≤ bs.length) : ∃ p s m0 m1 m2 m3, bs = p ++ m0 :: m1 :: m2 :: m3 :: s ∧ p.length = a := by
  refine ⟨bs.take a, bs.drop (a + 4), bs[a], bs[a + 1], bs[a + 2], bs[a + 3], ?_, by rw [List.length_take]; omega⟩
  have e : bs.drop a = bs[a] :: bs[a + 1] :: bs[a + 2] :: bs[a + 3] :: bs.drop (a + 4) := by
    rw [List.drop_eq_getElem_cons (by omega), List.drop_eq_getElem_cons (by omega), List.drop_eq_getElem_cons (by omega), List.drop_eq_getElem_cons (by omega)]
  rw [← e, List.take_append_drop]

theorem burst_sum (bs : List UInt8) (a : Nat) (x0 x1 x2 x3 : UInt8) (h : a + 4 ≤ bs.length) (hx : ¬ (x0 = 0 ∧ x1 = 0 ∧ x2 = 0 ∧ x3 = 0)) :
    sum bs ≠ sum (burst bs a [x0, x1, x2, x3] 4) := by
  obtain ⟨p, s, m0, m1, m2, m3, rfl, rfl⟩ := cut_four bs a h
  rw [burst_four]
  intro he
  have lt1 := run_lt (inv 0) (p ++ m0 :: m1 :: m2 :: m3 :: s) (inv_lt 0)
  have lt2 := run_lt (inv 0) (p ++ (m0 ^^^ x0) :: (m1 ^^^ x1) :: (m2 ^^^ x2) :: (m3 ^^^ x3) :: s) (inv_lt 0)
  have he' : run (inv 0) (p ++ m0 :: m1 :: m2 :: m3 :: s) = run (inv 0) (p ++ (m0 ^^^ x0) :: (m1 ^^^ x1) :: (m2 ^^^ x2) :: (m3 ^^^ x3) :: s) := by
    have := congrArg inv he
    simp only [sum, upd] at this
    rw [inv_inv _ lt1, inv_inv _ lt2] at this
    exact this
  rw [run_app, run_app] at he'
  have lp := run_lt (inv 0) p (inv_lt 0)
  generalize run (inv 0) p = c at he' lp
  have q0 := step_lt c m0.toNat lp m0.toNat_lt
  have q1 := step_lt _ m1.toNat q0 m1.toNat_lt
  have q2 := step_lt _ m2.toNat q1 m2.toNat_lt
  have q3 := step_lt _ m3.toNat q2 m3.toNat_lt
  have r0 := step_lt c (m0 ^^^ x0).toNat lp (m0 ^^^ x0).toNat_lt
  have r1 := step_lt _ (m1 ^^^ x1).toNat r0 (m1 ^^^ x1).toNat_lt
  have r2 := step_lt _ (m2 ^^^ x2).toNat r1 (m2 ^^^ x2).toNat_lt
  have r3 := step_lt _ (m3 ^^^ x3).toNat r2 (m3 ^^^ x3).toNat_lt
  have e4 := run_inj (step (step (step (step c m0.toNat) m1.toNat) m2.toNat) m3.toNat) (step (step (step (step c (m0 ^^^ x0).toNat) (m1 ^^^ x1).toNat) (m2 ^^^ x2).toNat) (m3 ^^^ x3).toNat) s q3 r3 he'
  simp only [UInt8.toNat_xor] at e4
  have e5 : step (step (step (step c (m0.toNat ^^^ x0.toNat)) (m1.toNat ^^^ x1.toNat)) (m2.toNat ^^^ x2.toNat)) (m3.toNat ^^^ x3.toNat) =
      step (step (step (step c m0.toNat) m1.toNat) m2.toNat) m3.toNat ^^^ step (step (step (step 0 x0.toNat) x1.toNat) x2.toNat) x3.toNat := by
    have t0 := step_xor c 0 m0.toNat x0.toNat
    rw [Nat.xor_zero] at t0
    rw [t0, step_xor, step_xor, step_xor]
  rw [e5] at e4
  have e6 : step (step (step (step 0 x0.toNat) x1.toNat) x2.toNat) x3.toNat = 0 := by
    have := congrArg (fun z => step (step (step (step c m0.toNat) m1.toNat) m2.toNat) m3.toNat ^^^ z) e4
    simp only [← Nat.xor_assoc, Nat.xor_self, Nat.zero_xor] at this
    exact this.symm
  have e7 := four _ _ _ _ x0.toNat_lt x1.toNat_lt x2.toNat_lt x3.toNat_lt e6
  exact hx ⟨UInt8.toNat_inj.1 e7.1, UInt8.toNat_inj.1 e7.2.1, UInt8.toNat_inj.1 e7.2.2.1, UInt8.toNat_inj.1 e7.2.2.2⟩
end Go.Proofs.YthgpmnblkhehkaaDoor.Crc
