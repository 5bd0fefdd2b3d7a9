/- Frames: the plain law. -/
import Derived.Test.YthgpmnblkhehkaaDoorCrcBurst
import Derived.Test.YthgpmnblkhehkaaDoorWire
namespace Go.Proofs.YthgpmnblkhehkaaDoor

theorem Crc.sum_four (p s a b : List UInt8) (ha : a.length = 4) (hb : b.length = 4) (h : Crc.sum (p ++ a ++ s) = Crc.sum (p ++ b ++ s)) : a = b := by
  match a, b, ha, hb with
  | [a0, a1, a2, a3], [b0, b1, b2, b3], _, _ =>
    have e : ∀ x y : UInt8, x ^^^ (x ^^^ y) = y := fun x y => by rw [← UInt8.xor_assoc, UInt8.xor_self, UInt8.zero_xor]
    by_cases hz : a0 ^^^ b0 = 0 ∧ a1 ^^^ b1 = 0 ∧ a2 ^^^ b2 = 0 ∧ a3 ^^^ b3 = 0
    · obtain ⟨h0, h1, h2, h3⟩ := hz
      rw [← e a0 b0, ← e a1 b1, ← e a2 b2, ← e a3 b3, h0, h1, h2, h3]
      simp
    · exfalso
      have h1 := Crc.burst_sum (p ++ [a0, a1, a2, a3] ++ s) p.length (a0 ^^^ b0) (a1 ^^^ b1) (a2 ^^^ b2) (a3 ^^^ b3) (by simp) hz
      have h2 := Crc.burst_four p s a0 a1 a2 a3 (a0 ^^^ b0) (a1 ^^^ b1) (a2 ^^^ b2) (a3 ^^^ b3)
      rw [e, e, e, e] at h2
      simp only [List.append_assoc, List.cons_append, List.nil_append] at h1 h h2
      rw [h2] at h1
      exact h1 h

theorem be_inj {k m n : Nat} (hm : m < 256 ^ k) (hn : n < 256 ^ k) (h : be k m = be k n) : m = n := by
  have := congrArg num h
  rw [num_be, num_be, Nat.mod_eq_of_lt hm, Nat.mod_eq_of_lt hn] at this
  exact this

/-- The numbers that a frame may have. -/
def may (kind salt sector : Int) : Bool := decide (1 ≤ kind ∧ kind ≤ 4 ∧ 0 ≤ salt ∧ 0 ≤ sector ∧ sector < 1048576)
theorem may_iff (kind salt sector : Int) : may kind salt sector = true ↔ 1 ≤ kind ∧ kind ≤ 4 ∧ 0 ≤ salt ∧ 0 ≤ sector ∧ sector < 1048576 := by simp [may]

def fbody (kind : Nat) (p : List UInt8) : List UInt8 := UInt8.ofNat kind :: p ++ List.replicate (59 - p.length) 0
def fplace (salt sector : Nat) : List UInt8 := be 8 salt ++ be 4 sector
def fsum (salt sector : Nat) (b : List UInt8) : List UInt8 := be 4 (Crc.sum (fplace salt sector ++ b))
def frame (kind salt sector : Nat) (p : List UInt8) : List UInt8 := fbody kind p ++ fsum salt sector (fbody kind p)

theorem fbody_len {kind : Nat} {p : List UInt8} (h : p.length ≤ 59) : (fbody kind p).length = 60 := by simp [fbody]; omega
theorem fsum_len (salt sector : Nat) (b : List UInt8) : (fsum salt sector b).length = 4 := be_len _ _
theorem frame_len {kind salt sector : Nat} {p : List UInt8} (h : p.length ≤ 59) : (frame kind salt sector p).length = 64 := by rw [frame, List.length_append, fbody_len h, fsum_len]

/-- The payload of a frame's bytes. -/
def pay (b : List UInt8) : List UInt8 := (b.drop 1).take 59
theorem pay_len {b : List UInt8} (h : b.length = 64) : (pay b).length = 59 := by simp [pay, h]
theorem pay_body {kind : Nat} {p s : List UInt8} (h : p.length ≤ 59) : pay (fbody kind p ++ s) = p ++ List.replicate (59 - p.length) 0 := by
  simp only [pay, fbody, List.cons_append, List.drop_succ_cons, List.drop_zero]
  rw [List.take_append_of_le_length (by simp; omega), List.take_of_length_le (by simp; omega)]
theorem fbody_pad {kind : Nat} {p : List UInt8} (h : p.length ≤ 59) : fbody kind (p ++ List.replicate (59 - p.length) 0) = fbody kind p := by
  have e : 59 - (p ++ List.replicate (59 - p.length) (0 : UInt8)).length = 0 := by simp; omega
  simp only [fbody]
  rw [e]
  simp
theorem frame_pad {kind salt sector : Nat} {p : List UInt8} (h : p.length ≤ 59) : frame kind salt sector (p ++ List.replicate (59 - p.length) 0) = frame kind salt sector p := by
  unfold frame; rw [fbody_pad h]

/-- Decode. -/
def dec (kind salt sector : Int) (b : List UInt8) : Option (List UInt8) :=
  if may kind salt sector = true ∧ b.length = 64 ∧ frame kind.toNat salt.toNat sector.toNat (pay b) = b then some (pay b) else none

theorem body_pay {kind : Nat} {b : List UInt8} (h : b.length = 64) : fbody kind (pay b) = UInt8.ofNat kind :: pay b := by simp [fbody, pay_len h]
theorem take_pay {b : List UInt8} (h : b.length = 64) : b.take 60 = b.headD 0 :: pay b := by
  cases b with
  | nil => cases h
  | cons x b => simp [pay]
theorem frame_eq {kind salt sector : Nat} {b : List UInt8} (h : b.length = 64) :
    frame kind salt sector (pay b) = b ↔ b.headD 0 = UInt8.ofNat kind ∧ b.drop 60 = fsum salt sector (b.take 60) := by
  have hb := List.take_append_drop 60 b
  have h60 : (b.take 60).length = 60 := by simp [h]
  constructor
  · intro e
    have hl : (fbody kind (pay b)).length = (b.take 60).length := by rw [h60, fbody_len (by rw [pay_len h]; exact Nat.le_refl _)]
    have e2 : fbody kind (pay b) ++ fsum salt sector (fbody kind (pay b)) = b.take 60 ++ b.drop 60 := by rw [hb]; exact e
    obtain ⟨e3, e4⟩ := List.append_inj e2 hl
    rw [body_pay h, take_pay h] at e3
    refine ⟨(List.cons.inj e3).1.symm, ?_⟩
    rw [← e4, body_pay h, take_pay h, e3]
  · rintro ⟨e1, e2⟩
    have e3 : fbody kind (pay b) = b.take 60 := by rw [body_pay h, take_pay h, e1]
    unfold frame
    rw [e3, ← e2, hb]

theorem dec_eq {kind salt sector : Int} {b : List UInt8} :
    dec kind salt sector b = if may kind salt sector = true ∧ b.length = 64 ∧ b.headD 0 = UInt8.ofNat kind.toNat ∧ b.drop 60 = fsum salt.toNat sector.toNat (b.take 60) then some (pay b) else none := by
  unfold dec
  by_cases h : b.length = 64
  · simp only [frame_eq h]
  · simp [h]
theorem dec_some {kind salt sector : Int} {b p : List UInt8} (h : dec kind salt sector b = some p) : may kind salt sector = true ∧ b.length = 64 ∧ p = pay b ∧ frame kind.toNat salt.toNat sector.toNat p = b := by
  unfold dec at h
  split at h
  · rename_i hc
    injection h with h
    subst h
    exact ⟨hc.1, hc.2.1, rfl, hc.2.2⟩
  · cases h
theorem dec_frame {kind salt sector : Int} {p : List UInt8} (hm : may kind salt sector = true) (h : p.length ≤ 59) :
    dec kind salt sector (frame kind.toNat salt.toNat sector.toNat p) = some (p ++ List.replicate (59 - p.length) 0) := by
  unfold dec
  have e : pay (frame kind.toNat salt.toNat sector.toNat p) = p ++ List.replicate (59 - p.length) 0 := pay_body h
  rw [if_pos ⟨hm, frame_len h, by rw [e, frame_pad h]⟩, e]

theorem frame_head {kind salt sector : Nat} {p : List UInt8} : (frame kind salt sector p).headD 0 = UInt8.ofNat kind := rfl
theorem frame_take {kind salt sector : Nat} {p : List UInt8} (h : p.length ≤ 59) : (frame kind salt sector p).take 60 = fbody kind p := by
  unfold frame; rw [List.take_append_of_le_length (by rw [fbody_len h]; exact Nat.le_refl _), List.take_of_length_le (by rw [fbody_len h]; exact Nat.le_refl _)]
theorem frame_drop {kind salt sector : Nat} {p : List UInt8} (h : p.length ≤ 59) : (frame kind salt sector p).drop 60 = fsum salt sector (fbody kind p) := by
  unfold frame; rw [List.drop_append_of_le_length (by rw [fbody_len h]; exact Nat.le_refl _), List.drop_of_length_le (by rw [fbody_len h]; exact Nat.le_refl _)]; rfl

/-- A frame of another place is none of this one. -/
theorem dec_other {kind salt sector kind' salt' sector' : Int} {p : List UInt8} (h : p.length ≤ 59) :
    (dec kind' salt' sector' (frame kind.toNat salt.toNat sector.toNat p)).isSome = true ↔
      may kind' salt' sector' = true ∧ UInt8.ofNat kind.toNat = UInt8.ofNat kind'.toNat ∧ fsum salt.toNat sector.toNat (fbody kind.toNat p) = fsum salt'.toNat sector'.toNat (fbody kind.toNat p) := by
  rw [dec_eq, frame_len h, frame_head, frame_take h, frame_drop h]
  by_cases hc : may kind' salt' sector' = true ∧ UInt8.ofNat kind.toNat = UInt8.ofNat kind'.toNat ∧ fsum salt.toNat sector.toNat (fbody kind.toNat p) = fsum salt'.toNat sector'.toNat (fbody kind.toNat p)
  · simp [hc]
  · rw [if_neg (fun h => hc ⟨h.1, h.2.2⟩)]
    simpa using hc

theorem fsum_inj {s t s' t' : Nat} {b b' : List UInt8} (h : fsum s t b = fsum s' t' b') : Crc.sum (fplace s t ++ b) = Crc.sum (fplace s' t' ++ b') :=
  be_inj (Crc.sum_lt _) (Crc.sum_lt _) h

theorem fsum_sector {s t t' : Nat} {b : List UInt8} (ht : t < 4294967296) (ht' : t' < 4294967296) (h : fsum s t b = fsum s t' b) : t = t' :=
  be_inj ht ht' (Crc.sum_four (be 8 s) b _ _ (be_len _ _) (be_len _ _) (fsum_inj h))

theorem be8_split (n : Nat) : be 8 n = be 4 (n / 4294967296) ++ be 4 n := by
  simp only [be, List.cons_append, List.nil_append, Nat.div_div_eq_div_mul]
theorem be4_mod (n : Nat) : be 4 n = be 4 (n % 4294967296) := by
  have h : ∀ j : Nat, j ≤ 3 → UInt8.ofNat (n / 2 ^ (8 * j)) = UInt8.ofNat (n % 4294967296 / 2 ^ (8 * j)) := by
    intro j hj
    apply UInt8.toNat_inj.1
    simp only [UInt8.toNat_ofNat']
    match j, hj with
    | 0, _ => simp
    | 1, _ => simp; omega
    | 2, _ => simp; omega
    | 3, _ => simp; omega
  simp only [be]
  rw [h 3 (by omega), h 2 (by omega), h 1 (by omega), h 0 (by omega)]

theorem fsum_salt {s s' t : Nat} {b : List UInt8} (hs : s / 4294967296 = s' / 4294967296) (h : fsum s t b = fsum s' t b) : s = s' := by
  have h1 := fsum_inj h
  unfold fplace at h1
  rw [be8_split, be8_split, hs] at h1
  rw [be4_mod s, be4_mod s'] at h1
  have h2 := be_inj (k := 4) (by have : s % 4294967296 < 4294967296 := Nat.mod_lt _ (by decide); exact this) (by have : s' % 4294967296 < 4294967296 := Nat.mod_lt _ (by decide); exact this)
    (Crc.sum_four (be 4 (s' / 4294967296)) (be 4 t ++ b) _ _ (be_len _ _) (be_len _ _) (by simpa only [List.append_assoc] using h1))
  omega

/-- FrameOther: another sector. -/
theorem other_sector {kind salt sector sector' : Int} {p : List UInt8} (hm : may kind salt sector = true) (h : p.length ≤ 59) :
    (dec kind salt sector' (frame kind.toNat salt.toNat sector.toNat p)).isSome = decide (sector' = sector) := by
  rw [Bool.eq_iff_iff, dec_other h, decide_eq_true_iff]
  have hm' := (may_iff _ _ _).1 hm
  constructor
  · rintro ⟨h1, _, h3⟩
    rw [may_iff] at h1
    have := fsum_sector (by omega) (by omega) h3
    omega
  · rintro rfl
    exact ⟨hm, rfl, rfl⟩
/-- FrameOther: another kind. -/
theorem other_kind {kind salt sector kind' : Int} {p : List UInt8} (hm : may kind salt sector = true) (h : p.length ≤ 59) :
    (dec kind' salt sector (frame kind.toNat salt.toNat sector.toNat p)).isSome = decide (kind' = kind) := by
  rw [Bool.eq_iff_iff, dec_other h, decide_eq_true_iff]
  have hm' := (may_iff _ _ _).1 hm
  constructor
  · rintro ⟨h1, h2, _⟩
    rw [may_iff] at h1
    have := congrArg UInt8.toNat h2
    simp only [UInt8.toNat_ofNat'] at this
    omega
  · rintro rfl
    exact ⟨hm, rfl, rfl⟩
/-- FrameOther: another salt. -/
theorem other_salt {kind salt sector salt' : Int} {p : List UInt8} (hm : may kind salt sector = true) (h : p.length ≤ 59) (h0 : 0 ≤ salt') (hs : salt.toNat / 4294967296 = salt'.toNat / 4294967296) :
    (dec kind salt' sector (frame kind.toNat salt.toNat sector.toNat p)).isSome = decide (salt' = salt) := by
  rw [Bool.eq_iff_iff, dec_other h, decide_eq_true_iff]
  have hm' := (may_iff _ _ _).1 hm
  constructor
  · rintro ⟨_, _, h3⟩
    have := fsum_salt hs h3
    omega
  · rintro rfl
    exact ⟨hm, rfl, rfl⟩

/-- FrameTorn: the burst lies before the checksum, or is the checksum. -/
theorem torn {kind salt sector : Int} {p : List UInt8} (h : p.length ≤ 59) (a : Nat) (ha : a + 4 ≤ 60 ∨ a = 60) (x0 x1 x2 x3 : UInt8) (hx : ¬ (x0 = 0 ∧ x1 = 0 ∧ x2 = 0 ∧ x3 = 0)) :
    dec kind salt sector (Crc.burst (frame kind.toNat salt.toNat sector.toNat p) a [x0, x1, x2, x3] 4) = none := by
  have hl := frame_len (kind := kind.toNat) (salt := salt.toNat) (sector := sector.toNat) h
  have hne : Crc.sum (frame kind.toNat salt.toNat sector.toNat p) ≠ Crc.sum (Crc.burst (frame kind.toNat salt.toNat sector.toNat p) a [x0, x1, x2, x3] 4) := Crc.burst_sum _ _ _ _ _ _ (by omega) hx
  obtain ⟨q, s, m0, m1, m2, m3, hf, hq⟩ := Crc.cut_four (frame kind.toNat salt.toNat sector.toNat p) a (by omega)
  have hd : frame kind.toNat salt.toNat sector.toNat p = fbody kind.toNat p ++ fsum salt.toNat sector.toNat (fbody kind.toNat p) := rfl
  have ht := frame_take (kind := kind.toNat) (salt := salt.toNat) (sector := sector.toNat) h
  have hdr := frame_drop (kind := kind.toNat) (salt := salt.toNat) (sector := sector.toNat) h
  rw [hf] at hl ht hdr hne ⊢
  subst hq
  rw [Crc.burst_four] at hne ⊢
  rw [dec_eq, if_neg]
  rintro ⟨_, _, _, h4⟩
  simp only [List.length_append, List.length_cons] at hl
  rcases ha with ha | ha
  · -- before the checksum: s = s1 ++ the checksum
    have e1 : ∀ y0 y1 y2 y3 : UInt8, (q ++ y0 :: y1 :: y2 :: y3 :: s).take 60 = q ++ y0 :: y1 :: y2 :: y3 :: s.take (60 - (q.length + 4)) := by
      intro y0 y1 y2 y3
      rw [List.take_append, List.take_of_length_le (by omega)]
      congr 1
      rw [show 60 - q.length = (60 - (q.length + 4)) + 1 + 1 + 1 + 1 by omega]
      simp
    have e2 : ∀ y0 y1 y2 y3 : UInt8, (q ++ y0 :: y1 :: y2 :: y3 :: s).drop 60 = s.drop (60 - (q.length + 4)) := by
      intro y0 y1 y2 y3
      rw [List.drop_append, List.drop_of_length_le (by omega)]
      rw [show 60 - q.length = (60 - (q.length + 4)) + 1 + 1 + 1 + 1 by omega]
      simp
    rw [e1] at h4 ht
    rw [e2] at h4 hdr
    rw [hdr, ← ht] at h4
    have h5 := Crc.sum_four (fplace salt.toNat sector.toNat ++ q) (s.take (60 - (q.length + 4))) [m0, m1, m2, m3] [m0 ^^^ x0, m1 ^^^ x1, m2 ^^^ x2, m3 ^^^ x3] rfl rfl (by
      have := fsum_inj h4
      simpa only [List.append_assoc, List.cons_append, List.nil_append] using this)
    apply hne
    simp only [List.cons.injEq, and_true] at h5
    obtain ⟨a0, a1, a2, a3⟩ := h5
    rw [← a0, ← a1, ← a2, ← a3]
  · have hs : s = [] := List.eq_nil_of_length_eq_zero (by omega)
    subst hs
    have e1 : ∀ y0 y1 y2 y3 : UInt8, (q ++ [y0, y1, y2, y3]).take 60 = q := fun y0 y1 y2 y3 => by rw [← ha]; simp
    have e2 : ∀ y0 y1 y2 y3 : UInt8, (q ++ [y0, y1, y2, y3]).drop 60 = [y0, y1, y2, y3] := fun y0 y1 y2 y3 => by rw [← ha]; simp
    rw [e1] at h4 ht
    rw [e2] at h4 hdr
    rw [ht, ← hdr] at h4
    apply hne
    simp only [List.cons.injEq, and_true] at h4
    obtain ⟨a0, a1, a2, a3⟩ := h4
    rw [a0, a1, a2, a3]
end Go.Proofs.YthgpmnblkhehkaaDoor
