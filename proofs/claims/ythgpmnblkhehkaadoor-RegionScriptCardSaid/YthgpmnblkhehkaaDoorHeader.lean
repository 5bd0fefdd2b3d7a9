/- Headers: the plain law. -/
import Derived.Test.YthgpmnblkhehkaaDoorFrame
namespace Go.Proofs.YthgpmnblkhehkaaDoor

/-- A header: version, slot, layout, seq, tail, now. -/
abbrev Hdr := Int × Int × Int × Int × Int × Int
def hvalid (h : Hdr) : Bool := decide ((h.1 = 1 ∨ h.1 = 2) ∧ 0 ≤ h.2.1 ∧ h.2.1 < 16 ∧ 1 ≤ h.2.2.1 ∧ h.2.2.1 ≤ 4294967295 ∧ 1 ≤ h.2.2.2.1 ∧ h.2.2.2.1 ≤ 281474976710655 ∧ 0 ≤ h.2.2.2.2.1 ∧ h.2.2.2.2.1 ≤ h.2.2.2.1 ∧ 0 ≤ h.2.2.2.2.2 ∧ h.2.2.2.2.2 ≤ 549755813888)
theorem hvalid_iff (a b c d e f : Int) : hvalid (a, b, c, d, e, f) = true ↔ (a = 1 ∨ a = 2) ∧ 0 ≤ b ∧ b < 16 ∧ 1 ≤ c ∧ c ≤ 4294967295 ∧ 1 ≤ d ∧ d ≤ 281474976710655 ∧ 0 ≤ e ∧ e ≤ d ∧ 0 ≤ f ∧ f ≤ 549755813888 := by simp [hvalid]

/-- The bytes of a header. -/
def hbody (x y : UInt8) (la sq ta no : Nat) : List UInt8 := (((([x, y] ++ be 4 la) ++ be 6 sq) ++ be 6 ta) ++ be 5 no)
theorem hbody_len (x y : UInt8) (la sq ta no : Nat) : (hbody x y la sq ta no).length = 23 := by simp [hbody, be_len]
def hbytes (h : Hdr) : List UInt8 := hbody (UInt8.ofNat h.1.toNat) (UInt8.ofNat h.2.1.toNat) h.2.2.1.toNat h.2.2.2.1.toNat h.2.2.2.2.1.toNat h.2.2.2.2.2.toNat
theorem hbytes_len (h : Hdr) : (hbytes h).length = 23 := hbody_len _ _ _ _ _ _

/-- The numbers that are read. -/
def hread (p : List UInt8) : Hdr := ((num (p.take 1) : Int), (num ((p.drop 1).take 1) : Int), (num ((p.drop 2).take 4) : Int), (num ((p.drop 6).take 6) : Int), (num ((p.drop 12).take 6) : Int), (num ((p.drop 18).take 5) : Int))

theorem cut_part (a b c : List UInt8) (k n : Nat) (hk : a.length = k) (hn : b.length = n) : ((a ++ b ++ c).drop k).take n = b := by
  subst hk hn
  rw [List.append_assoc, List.drop_left, List.take_left]

theorem hread_body (x y : UInt8) (la sq ta no : Nat) (z : List UInt8) (h1 : la < 4294967296) (h2 : sq < 281474976710656) (h3 : ta < 281474976710656) (h4 : no < 1099511627776) :
    hread (hbody x y la sq ta no ++ z) = ((x.toNat : Int), (y.toNat : Int), (la : Int), (sq : Int), (ta : Int), (no : Int)) := by
  have e0 : (hbody x y la sq ta no ++ z).take 1 = [x] := by simp [hbody]
  have e1 : ((hbody x y la sq ta no ++ z).drop 1).take 1 = [y] := by simp [hbody]
  have e2 : ((hbody x y la sq ta no ++ z).drop 2).take 4 = be 4 la := by
    have := cut_part [x, y] (be 4 la) (be 6 sq ++ (be 6 ta ++ (be 5 no ++ z))) 2 4 rfl (be_len _ _)
    simpa only [hbody, List.append_assoc] using this
  have e3 : ((hbody x y la sq ta no ++ z).drop 6).take 6 = be 6 sq := by
    have := cut_part ([x, y] ++ be 4 la) (be 6 sq) (be 6 ta ++ (be 5 no ++ z)) 6 6 (by simp [be_len]) (be_len _ _)
    simpa only [hbody, List.append_assoc] using this
  have e4 : ((hbody x y la sq ta no ++ z).drop 12).take 6 = be 6 ta := by
    have := cut_part ([x, y] ++ be 4 la ++ be 6 sq) (be 6 ta) (be 5 no ++ z) 12 6 (by simp [be_len]) (be_len _ _)
    simpa only [hbody, List.append_assoc] using this
  have e5 : ((hbody x y la sq ta no ++ z).drop 18).take 5 = be 5 no := by
    have := cut_part ([x, y] ++ be 4 la ++ be 6 sq ++ be 6 ta) (be 5 no) z 18 5 (by simp [be_len]) (be_len _ _)
    simpa only [hbody, List.append_assoc] using this
  unfold hread
  rw [e0, e1, e2, e3, e4, e5, num_be, num_be, num_be, num_be, Nat.mod_eq_of_lt h1, Nat.mod_eq_of_lt h2, Nat.mod_eq_of_lt h3, Nat.mod_eq_of_lt h4]
  simp [num]

theorem hread_bytes {h : Hdr} (hv : hvalid h = true) (z : List UInt8) : hread (hbytes h ++ z) = h := by
  obtain ⟨a, b, c, d, e, f⟩ := h
  rw [hvalid_iff] at hv
  rw [hbytes, hread_body _ _ _ _ _ _ _ (by simp only; omega) (by simp only; omega) (by simp only; omega) (by simp only; omega)]
  simp only [UInt8.toNat_ofNat']
  refine Prod.ext ?_ (Prod.ext ?_ (Prod.ext ?_ (Prod.ext ?_ (Prod.ext ?_ ?_)))) <;> simp only <;> omega

/-- What header.Encode returns. -/
def hencF (h : Hdr) (t : Int) : List UInt8 := frame 1 0 t.toNat (hbytes h)
theorem hencF_len (h : Hdr) (t : Int) : (hencF h t).length = 64 := frame_len (by rw [hbytes_len]; decide)
/-- What header.Decode returns. -/
def hdec (t : Int) (b : List UInt8) : Option Hdr :=
  match dec 1 0 t b with
  | none => none
  | some p => if hvalid (hread p) = true ∧ hencF (hread p) t = b then some (hread p) else none
theorem hdec_none {t : Int} {b : List UInt8} (h : dec 1 0 t b = none) : hdec t b = none := by unfold hdec; rw [h]
theorem hdec_some {t : Int} {b p : List UInt8} (h : dec 1 0 t b = some p) : hdec t b = if hvalid (hread p) = true ∧ hencF (hread p) t = b then some (hread p) else none := by unfold hdec; rw [h]
theorem hdec_enc {h : Hdr} {t : Int} (hv : hvalid h = true) (hm : may 1 0 t = true) : hdec t (hencF h t) = some h := by
  have h1 := dec_frame (kind := 1) (salt := 0) (sector := t) (p := hbytes h) hm (by rw [hbytes_len]; decide)
  have h2 : dec 1 0 t (hencF h t) = some (hbytes h ++ List.replicate (59 - (hbytes h).length) 0) := h1
  rw [hdec_some h2, hread_bytes hv, if_pos ⟨hv, rfl⟩]
theorem hdec_other {h : Hdr} {s t : Int} (hv : hvalid h = true) (hm : may 1 0 s = true) : (hdec t (hencF h s)).isSome = decide (s = t) := by
  have h1 : (dec 1 0 t (hencF h s)).isSome = decide (t = s) := other_sector (kind := 1) (salt := 0) (sector := s) (sector' := t) (p := hbytes h) hm (by rw [hbytes_len]; decide)
  by_cases he : s = t
  · subst he
    rw [hdec_enc hv hm]
    simp
  · rw [decide_eq_false (fun h => he h.symm)] at h1
    have h2 : dec 1 0 t (hencF h s) = none := by simpa using h1
    rw [hdec_none h2, decide_eq_false he]
    rfl
theorem hencF_inj {a b : Hdr} {t : Int} (ha : hvalid a = true) (hb : hvalid b = true) (hm : may 1 0 t = true) : hencF a t = hencF b t ↔ a = b := by
  constructor
  · intro h
    have h1 := hdec_enc ha hm
    rw [h, hdec_enc hb hm] at h1
    injection h1 with h1
    exact h1.symm
  · rintro rfl; rfl
theorem may_zero (t : Int) : may 1 0 t = decide (0 ≤ t ∧ t < 1048576) := by simp [may]
end Go.Proofs.YthgpmnblkhehkaaDoor
