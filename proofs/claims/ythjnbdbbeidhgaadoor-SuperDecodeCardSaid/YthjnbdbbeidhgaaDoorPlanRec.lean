/- Plan records: the plain law. -/
import Derived.Test.YthjnbdbbeidhgaaDoorFrameWalk
import Derived.Test.YthjnbdbbeidhgaaDoorForm
namespace Go.Proofs.YthjnbdbbeidhgaaDoor

/-- The bytes of a layout that is well-formed, or zero. -/
def lbytes (id ve rs rg : Int) : List UInt8 := be 4 id.toNat ++ [UInt8.ofNat ve.toNat, UInt8.ofNat (logR rs).toNat, UInt8.ofNat rg.toNat]
theorem lbytes_len (id ve rs rg : Int) : (lbytes id ve rs rg).length = 7 := by simp [lbytes, be_len]

/-- A plan record: kind, migration, index, tail, and the target's four numbers. -/
abbrev Pln := Int × Int × Int × Int × Int × Int × Int × Int
def pvalid : Pln → Bool := fun (k, m, i, t, a, b, c, d) => decide (1 ≤ m ∧ m ≤ 4294967295 ∧ 0 ≤ t ∧ t ≤ 281474976710655 ∧ form a b c d = true ∧ ((k = 1 ∧ i = 0) ∨ (k = 2 ∧ 1 ≤ i ∧ i < 36)))
theorem pvalid_iff (k m i t a b c d : Int) : pvalid (k, m, i, t, a, b, c, d) = true ↔ 1 ≤ m ∧ m ≤ 4294967295 ∧ 0 ≤ t ∧ t ≤ 281474976710655 ∧ form a b c d = true ∧ ((k = 1 ∧ i = 0) ∨ (k = 2 ∧ 1 ≤ i ∧ i < 36)) := by simp [pvalid]

def pbody (x y : UInt8) (m t : Nat) (l : List UInt8) : List UInt8 := (([x] ++ be 4 m) ++ [y] ++ be 6 t) ++ l
def pbytes : Pln → List UInt8 := fun (k, m, i, t, a, b, c, d) => pbody (UInt8.ofNat k.toNat) (UInt8.ofNat i.toNat) m.toNat t.toNat (lbytes a b c d)
theorem pbytes_len (x : Pln) : (pbytes x).length = 19 := by
  obtain ⟨k, m, i, t, a, b, c, d⟩ := x
  simp [pbytes, pbody, be_len, lbytes_len]

/-- The numbers of a layout, as the code reads them. -/
def lrs (id k : Nat) : Int := if 0 < id then ((2 ^ min k 30 : Nat) : Int) else 0
/-- As the reference reads them. -/
def lrsR (id ve rg k : Nat) : Int := if (id = 0 ∧ ve = 0 ∧ rg = 0) ∧ k = 0 then 0 else ((2 ^ min k 12 : Nat) : Int)
def pread (p : List UInt8) : Pln :=
  ((num ((p.drop 0).take 1) : Int), (num ((p.drop 1).take 4) : Int), (num ((p.drop 5).take 1) : Int), (num ((p.drop 6).take 6) : Int),
    (num ((p.drop 12).take 4) : Int), (num ((p.drop 16).take 1) : Int), lrs (num ((p.drop 12).take 4)) (num ((p.drop 17).take 1)), (num ((p.drop 18).take 1) : Int))
def preadR (p : List UInt8) : Pln :=
  ((num ((p.drop 0).take 1) : Int), (num ((p.drop 1).take 4) : Int), (num ((p.drop 5).take 1) : Int), (num ((p.drop 6).take 6) : Int),
    (num ((p.drop 12).take 4) : Int), (num ((p.drop 16).take 1) : Int), lrsR (num ((p.drop 12).take 4)) (num ((p.drop 16).take 1)) (num ((p.drop 18).take 1)) (num ((p.drop 17).take 1)), (num ((p.drop 18).take 1) : Int))

theorem cut_seg (a b c : List UInt8) (k n : Nat) (hk : a.length = k) (hn : b.length = n) : ((a ++ b ++ c).drop k).take n = b := by
  subst hk hn
  rw [List.append_assoc, List.drop_left, List.take_left]

theorem form_log {a b c d : Int} (h : form a b c d = true) : ∃ k : Nat, 1 ≤ k ∧ k ≤ 11 ∧ logR c = (k : Int) ∧ c = ((2 ^ k : Nat) : Int) := by
  obtain ⟨_, _, _, h2, h3, h4, _⟩ := form_true h
  by_cases hx : ∃ k : Nat, k < 12 ∧ c = 2 ^ k
  · obtain ⟨k, hk, rfl⟩ := hx
    have := (logR_form (2 ^ k)).1 ⟨h2, h3, h4⟩
    rw [logR_pow k hk] at this
    exact ⟨k, by omega, by omega, logR_pow k hk, by simp⟩
  · rw [log_none c (fun k hk e => hx ⟨k, hk, e⟩)] at h4
    cases h4

theorem pread_parts {x y : UInt8} {m t id : Nat} {v g s : UInt8} (z : List UInt8) (hm : m < 4294967296) (ht : t < 281474976710656) (hid : id < 4294967296) :
    let p := pbody x y m t (be 4 id ++ [v, g, s]) ++ z
    num ((p.drop 0).take 1) = x.toNat ∧ num ((p.drop 1).take 4) = m ∧ num ((p.drop 5).take 1) = y.toNat ∧ num ((p.drop 6).take 6) = t ∧
      num ((p.drop 12).take 4) = id ∧ num ((p.drop 16).take 1) = v.toNat ∧ num ((p.drop 17).take 1) = g.toNat ∧ num ((p.drop 18).take 1) = s.toNat := by
  intro p
  have e0 : (p.drop 0).take 1 = [x] := by
    have := cut_seg [] [x] (be 4 m ++ ([y] ++ (be 6 t ++ (be 4 id ++ ([v, g, s] ++ z))))) 0 1 rfl rfl
    simpa only [p, pbody, List.append_assoc, List.nil_append] using this
  have e1 : (p.drop 1).take 4 = be 4 m := by
    have := cut_seg [x] (be 4 m) ([y] ++ (be 6 t ++ (be 4 id ++ ([v, g, s] ++ z)))) 1 4 rfl (be_len _ _)
    simpa only [p, pbody, List.append_assoc] using this
  have e2 : (p.drop 5).take 1 = [y] := by
    have := cut_seg ([x] ++ be 4 m) [y] (be 6 t ++ (be 4 id ++ ([v, g, s] ++ z))) 5 1 (by simp [be_len]) rfl
    simpa only [p, pbody, List.append_assoc] using this
  have e3 : (p.drop 6).take 6 = be 6 t := by
    have := cut_seg ([x] ++ be 4 m ++ [y]) (be 6 t) (be 4 id ++ ([v, g, s] ++ z)) 6 6 (by simp [be_len]) (be_len _ _)
    simpa only [p, pbody, List.append_assoc] using this
  have e4 : (p.drop 12).take 4 = be 4 id := by
    have := cut_seg ([x] ++ be 4 m ++ [y] ++ be 6 t) (be 4 id) ([v, g, s] ++ z) 12 4 (by simp [be_len]) (be_len _ _)
    simpa only [p, pbody, List.append_assoc] using this
  have e5 : (p.drop 16).take 1 = [v] := by
    have := cut_seg ([x] ++ be 4 m ++ [y] ++ be 6 t ++ be 4 id) [v] ([g, s] ++ z) 16 1 (by simp [be_len]) rfl
    simpa only [p, pbody, List.append_assoc, List.cons_append, List.nil_append] using this
  have e6 : (p.drop 17).take 1 = [g] := by
    have := cut_seg ([x] ++ be 4 m ++ [y] ++ be 6 t ++ be 4 id ++ [v]) [g] ([s] ++ z) 17 1 (by simp [be_len]) rfl
    simpa only [p, pbody, List.append_assoc, List.cons_append, List.nil_append] using this
  have e7 : (p.drop 18).take 1 = [s] := by
    have := cut_seg ([x] ++ be 4 m ++ [y] ++ be 6 t ++ be 4 id ++ [v, g]) [s] z 18 1 (by simp [be_len]) rfl
    simpa only [p, pbody, List.append_assoc, List.cons_append, List.nil_append] using this
  rw [e0, e1, e2, e3, e4, e5, e6, e7, num_be, num_be, num_be]
  refine ⟨by simp [num], Nat.mod_eq_of_lt hm, by simp [num], Nat.mod_eq_of_lt ht, Nat.mod_eq_of_lt hid, by simp [num], by simp [num], by simp [num]⟩

theorem u8_of {n : Nat} (h : n < 256) : (UInt8.ofNat n).toNat = n := by simp only [UInt8.toNat_ofNat']; omega

theorem pread_bytes {x : Pln} (hv : pvalid x = true) (z : List UInt8) : pread (pbytes x ++ z) = x ∧ preadR (pbytes x ++ z) = x := by
  obtain ⟨k, m, i, t, a, b, c, d⟩ := x
  rw [pvalid_iff] at hv
  obtain ⟨m1, m2, t1, t2, hf, hk⟩ := hv
  obtain ⟨n, n1, n2, hn, rfl⟩ := form_log hf
  obtain ⟨a1, a2, b12, _, _, _, d1, d2⟩ := form_true hf
  obtain ⟨q0, q1, q2, q3, q4, q5, q6, q7⟩ := pread_parts (x := UInt8.ofNat k.toNat) (y := UInt8.ofNat i.toNat) (m := m.toNat) (t := t.toNat) (id := a.toNat) (v := UInt8.ofNat b.toNat) (g := UInt8.ofNat n) (s := UInt8.ofNat d.toNat) z (by omega) (by omega) (by omega)
  rw [u8_of (by omega)] at q0 q2 q5 q6 q7
  have hb : pbytes (k, m, i, t, a, b, ((2 ^ n : Nat) : Int), d) ++ z = pbody (UInt8.ofNat k.toNat) (UInt8.ofNat i.toNat) m.toNat t.toNat (be 4 a.toNat ++ [UInt8.ofNat b.toNat, UInt8.ofNat n, UInt8.ofNat d.toNat]) ++ z := by
    simp only [pbytes, lbytes, hn, Int.toNat_natCast]
  rw [hb]
  unfold pread preadR
  simp only [q0, q1, q2, q3, q4, q5, q6, q7, lrs, lrsR]
  have g1 : 0 < a.toNat := by omega
  have g2 : ¬ ((a.toNat = 0 ∧ b.toNat = 0 ∧ d.toNat = 0) ∧ n = 0) := by omega
  have g3 : min n 30 = n := by omega
  have g4 : min n 12 = n := by omega
  rw [if_pos g1, if_neg g2, g3, g4]
  constructor <;> (refine Prod.ext ?_ (Prod.ext ?_ (Prod.ext ?_ (Prod.ext ?_ (Prod.ext ?_ (Prod.ext ?_ (Prod.ext ?_ ?_)))))) <;> simp only <;> omega)

/-- What plan.Encode returns. -/
def pencF (x : Pln) (t : Int) : List UInt8 := frame 4 0 t.toNat (pbytes x)
theorem pencF_len (x : Pln) (t : Int) : (pencF x t).length = 64 := frame_len (by rw [pbytes_len]; decide)
def pencS (x : Pln) (t : Int) : List UInt8 × Int := if pvalid x = true then encS 4 0 t (pbytes x) else ([], 4)
theorem pencS_bad {x : Pln} {t : Int} (hv : pvalid x = false) : pencS x t = ([], 4) := by unfold pencS; rw [hv]; rfl
theorem pencS_range {x : Pln} {t : Int} (hv : pvalid x = true) (hm : may 4 0 t = false) : pencS x t = ([], 2) := by unfold pencS encS; rw [if_pos hv, hm]; rfl
theorem pencS_ok {x : Pln} {t : Int} (hv : pvalid x = true) (hm : may 4 0 t = true) : pencS x t = (pencF x t, 0) := by unfold pencS encS; rw [if_pos hv, if_pos hm, if_pos (by rw [pbytes_len]; decide)]; rfl

/-- What plan.Decode returns, with one way to read. -/
def pdecW (rd : List UInt8 → Pln) (t : Int) (b : List UInt8) : Option Pln :=
  match dec 4 0 t b with
  | none => none
  | some p => if pvalid (rd p) = true ∧ pencF (rd p) t = b then some (rd p) else none
theorem pdec_none {rd : List UInt8 → Pln} {t : Int} {b : List UInt8} (h : dec 4 0 t b = none) : pdecW rd t b = none := by unfold pdecW; rw [h]
theorem pdec_some {rd : List UInt8 → Pln} {t : Int} {b p : List UInt8} (h : dec 4 0 t b = some p) : pdecW rd t b = if pvalid (rd p) = true ∧ pencF (rd p) t = b then some (rd p) else none := by unfold pdecW; rw [h]
theorem pdec_enc {x : Pln} {t : Int} (hv : pvalid x = true) (hm : may 4 0 t = true) : pdecW pread t (pencF x t) = some x := by
  have h1 := dec_frame (kind := 4) (salt := 0) (sector := t) (p := pbytes x) hm (by rw [pbytes_len]; decide)
  have h2 : dec 4 0 t (pencF x t) = some (pbytes x ++ List.replicate (59 - (pbytes x).length) 0) := h1
  rw [pdec_some h2, (pread_bytes hv _).1, if_pos ⟨hv, rfl⟩]
/-- The two ways to read decode the same. -/
theorem pdec_two (t : Int) (b : List UInt8) : pdecW preadR t b = pdecW pread t b := by
  cases hd : dec 4 0 t b with
  | none => rw [pdec_none hd, pdec_none hd]
  | some p =>
    obtain ⟨hm, _, _, _⟩ := dec_some hd
    have key : ∀ x, pvalid x = true → pencF x t = b → pread p = x ∧ preadR p = x := by
      intro x hv he
      have h1 := dec_frame (kind := 4) (salt := 0) (sector := t) (p := pbytes x) hm (by rw [pbytes_len]; decide)
      have h2 : dec 4 0 t (pencF x t) = some (pbytes x ++ List.replicate (59 - (pbytes x).length) 0) := h1
      rw [he, hd] at h2
      injection h2 with h2
      rw [h2]
      exact pread_bytes hv _
    rw [pdec_some hd, pdec_some hd]
    by_cases h1 : pvalid (preadR p) = true ∧ pencF (preadR p) t = b
    · have e := (key _ h1.1 h1.2).1
      rw [e]
    · rw [if_neg h1]
      by_cases h2 : pvalid (pread p) = true ∧ pencF (pread p) t = b
      · have e := (key _ h2.1 h2.2).2
        rw [e] at h1
        exact absurd h2 h1
      · rw [if_neg h2]
end Go.Proofs.YthjnbdbbeidhgaaDoor
