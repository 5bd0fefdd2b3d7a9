/- Records: the plain law. -/
import Derived.Test.YthgpmnblkhehkaaDoorWire
import Derived.Test.YthgpmnblkhehkaaDoorCrc
namespace Go.Proofs.YthgpmnblkhehkaaDoor

/-- The first error of a record. -/
def rcheck (v ki ex : Int) (nk nv : Nat) : Int :=
  if ¬ v = 1 ∧ ¬ v = 2 then 2
  else if ki < 1 ∨ 3 < ki ∨ (¬ ki = 1 ∧ (0 < nv ∨ ¬ ex = 0)) ∨ (ki = 3 ∧ 0 < nk) then 4
  else if ¬ ki = 3 ∧ (nk = 0 ∨ 255 < nk) then 5
  else if 65536 < nv then 6
  else if ex < 0 ∨ (v = 1 ∧ 4294967295 < ex) ∨ (¬ v = 1 ∧ 1099511627775 < ex) then 7
  else 0

theorem rcheck_zero {v ki ex : Int} {nk nv : Nat} (h : rcheck v ki ex nk nv = 0) :
    (v = 1 ∨ v = 2) ∧ 1 ≤ ki ∧ ki ≤ 3 ∧ (¬ ki = 1 → nv = 0 ∧ ex = 0) ∧ (ki = 3 → nk = 0) ∧ (¬ ki = 3 → 1 ≤ nk) ∧ nk ≤ 255 ∧ nv ≤ 65536 ∧ 0 ≤ ex ∧ (v = 1 → ex ≤ 4294967295) ∧ ex ≤ 1099511627775 := by
  unfold rcheck at h
  split at h
  · cases h
  split at h
  · cases h
  split at h
  · cases h
  split at h
  · cases h
  split at h
  · cases h
  omega
theorem rcheck_range (v ki ex : Int) (nk nv : Nat) : rcheck v ki ex nk nv = 0 ∨ rcheck v ki ex nk nv = 2 ∨ rcheck v ki ex nk nv = 4 ∨ rcheck v ki ex nk nv = 5 ∨ rcheck v ki ex nk nv = 6 ∨ rcheck v ki ex nk nv = 7 := by
  unfold rcheck
  split <;> (try split) <;> (try split) <;> (try split) <;> (try split) <;> simp

theorem be_one (n : Nat) : be 1 n = [UInt8.ofNat n] := by simp [be]

/-- The first twelve bytes of a record. -/
def rhead (v : Int) (ki nk nv ex : Nat) : List UInt8 :=
  if v = 1 then [0xA1, UInt8.ofNat ki, UInt8.ofNat nk, 0] ++ be 4 nv ++ be 4 ex
  else [0xA2, UInt8.ofNat nk, UInt8.ofNat (16 * ki)] ++ be 3 nv ++ [0] ++ be 5 ex
theorem rhead_len (v : Int) (ki nk nv ex : Nat) : (rhead v ki nk nv ex).length = 12 := by unfold rhead; split <;> simp [be_len]
def rplace (s o : Nat) : List UInt8 := be 8 s ++ be 4 o
theorem rplace_len (s o : Nat) : (rplace s o).length = 12 := by simp [rplace, be_len]
def rsum (v : Int) (s o ki ex : Nat) (key val : List UInt8) : Nat := Crc.sum (rplace s o ++ rhead v ki key.length val.length ex ++ key ++ val)
/-- The bytes of a record. -/
def rbytes (v : Int) (s o ki ex : Nat) (key val : List UInt8) : List UInt8 := rhead v ki key.length val.length ex ++ be 4 (rsum v s o ki ex key val) ++ key ++ val
theorem rbytes_len (v : Int) (s o ki ex : Nat) (key val : List UInt8) : (rbytes v s o ki ex key val).length = 16 + key.length + val.length := by simp [rbytes, rhead_len, be_len]; omega

/-- What Encode returns. -/
def rencS (v s o ki ex : Int) (key val : List UInt8) : List UInt8 × Int :=
  if ¬ rcheck v ki ex key.length val.length = 0 then ([], rcheck v ki ex key.length val.length)
  else if s < 0 ∨ o < 0 ∨ 2147483647 < o then ([], 2) else (rbytes v s.toNat o.toNat ki.toNat ex.toNat key val, 0)

/-- The numbers that are read: kind, expiry, the key's length, the value's. -/
def rread (v : Int) (b : List UInt8) : Nat × Nat × Nat × Nat :=
  if v = 1 then (num ((b.drop 1).take 1), num ((b.drop 8).take 4), num ((b.drop 2).take 1), num ((b.drop 4).take 4))
  else (num ((b.drop 2).take 1) / 16, num ((b.drop 7).take 5), num ((b.drop 1).take 1), num ((b.drop 3).take 3))
abbrev Rcd := Int × Int × List UInt8 × List UInt8
def rkey (b : List UInt8) (k : Nat) : List UInt8 := (b.drop 16).take k
def rval (b : List UInt8) (k n : Nat) : List UInt8 := (b.drop (16 + k)).take n
/-- What Decode returns: the record and its length. -/
def rdec (v s o : Int) (b : List UInt8) : Option (Rcd × Nat) :=
  let q := rread v b
  if 16 ≤ b.length ∧ q.2.2.2 ≤ 65536 ∧ 16 + q.2.2.1 + q.2.2.2 ≤ b.length ∧
      rencS v s o q.1 q.2.1 (rkey b q.2.2.1) (rval b q.2.2.1 q.2.2.2) = (b.take (16 + q.2.2.1 + q.2.2.2), 0) then
    some (((q.1 : Int), (q.2.1 : Int), rkey b q.2.2.1, rval b q.2.2.1 q.2.2.2), 16 + q.2.2.1 + q.2.2.2)
  else none

theorem cut_mid (a m c : List UInt8) (k n : Nat) (hk : a.length = k) (hn : m.length = n) : ((a ++ m ++ c).drop k).take n = m := by
  subst hk hn
  rw [List.append_assoc, List.drop_left, List.take_left]

/-- The numbers of a record's bytes. -/
theorem rread_bytes {v : Int} {ki ex nk nv : Nat} (hv : v = 1 ∨ v = 2) (z : List UInt8) (h1 : ki ≤ 3) (h2 : nk ≤ 255) (h3 : nv ≤ 65536) (h4 : ex ≤ 1099511627775) (h5 : v = 1 → ex ≤ 4294967295) :
    rread v (rhead v ki nk nv ex ++ z) = (ki, ex, nk, nv) := by
  have one : ∀ n, n ≤ 255 → num [UInt8.ofNat n] = n := fun n hn => by simp [num]; omega
  rcases hv with rfl | rfl
  · have hh : rhead 1 ki nk nv ex = [0xA1, UInt8.ofNat ki, UInt8.ofNat nk, 0] ++ be 4 nv ++ be 4 ex := if_pos rfl
    have e1 : ((rhead 1 ki nk nv ex ++ z).drop 1).take 1 = [UInt8.ofNat ki] := by rw [hh]; rfl
    have e2 : ((rhead 1 ki nk nv ex ++ z).drop 2).take 1 = [UInt8.ofNat nk] := by rw [hh]; rfl
    have e3 : ((rhead 1 ki nk nv ex ++ z).drop 4).take 4 = be 4 nv := by
      rw [hh]
      have := cut_mid [0xA1, UInt8.ofNat ki, UInt8.ofNat nk, 0] (be 4 nv) (be 4 ex ++ z) 4 4 rfl (be_len _ _)
      simpa only [List.append_assoc] using this
    have e4 : ((rhead 1 ki nk nv ex ++ z).drop 8).take 4 = be 4 ex := by
      rw [hh]
      exact cut_mid ([0xA1, UInt8.ofNat ki, UInt8.ofNat nk, 0] ++ be 4 nv) (be 4 ex) z 8 4 (by simp [be_len]) (be_len _ _)
    unfold rread
    rw [if_pos rfl, e1, e2, e3, e4, one _ (by omega), one _ h2, num_be, num_be, Nat.mod_eq_of_lt (by have := h5 rfl; omega), Nat.mod_eq_of_lt (by omega)]
  · have hh : rhead 2 ki nk nv ex = [0xA2, UInt8.ofNat nk, UInt8.ofNat (16 * ki)] ++ be 3 nv ++ [0] ++ be 5 ex := if_neg (by decide)
    have e1 : ((rhead 2 ki nk nv ex ++ z).drop 1).take 1 = [UInt8.ofNat nk] := by rw [hh]; rfl
    have e2 : ((rhead 2 ki nk nv ex ++ z).drop 2).take 1 = [UInt8.ofNat (16 * ki)] := by rw [hh]; rfl
    have e3 : ((rhead 2 ki nk nv ex ++ z).drop 3).take 3 = be 3 nv := by
      rw [hh]
      have := cut_mid [0xA2, UInt8.ofNat nk, UInt8.ofNat (16 * ki)] (be 3 nv) ([0] ++ be 5 ex ++ z) 3 3 rfl (be_len _ _)
      simpa only [List.append_assoc] using this
    have e4 : ((rhead 2 ki nk nv ex ++ z).drop 7).take 5 = be 5 ex := by
      rw [hh]
      exact cut_mid ([0xA2, UInt8.ofNat nk, UInt8.ofNat (16 * ki)] ++ be 3 nv ++ [0]) (be 5 ex) z 7 5 (by simp [be_len]) (be_len _ _)
    unfold rread
    rw [if_neg (by decide), e1, e2, e3, e4, one _ h2, one _ (by omega), num_be, num_be, Nat.mod_eq_of_lt (by omega), Nat.mod_eq_of_lt (by omega)]
    simp

theorem rencS_ok {v s o ki ex : Int} {key val : List UInt8} (h : (rencS v s o ki ex key val).2 = 0) :
    rcheck v ki ex key.length val.length = 0 ∧ 0 ≤ s ∧ 0 ≤ o ∧ o ≤ 2147483647 ∧ rencS v s o ki ex key val = (rbytes v s.toNat o.toNat ki.toNat ex.toNat key val, 0) := by
  unfold rencS at h ⊢
  split at h
  · rename_i hc; exact absurd h hc
  · rename_i hc
    split at h
    · cases h
    · rename_i hr
      rw [if_neg hc, if_neg hr]
      exact ⟨Decidable.not_not.1 hc, by omega, by omega, by omega, rfl⟩

/-- Decode of what Encode returns, whatever follows it. -/
theorem rdec_enc {v s o ki ex : Int} {key val : List UInt8} (h : (rencS v s o ki ex key val).2 = 0) (more : List UInt8) :
    rdec v s o ((rencS v s o ki ex key val).1 ++ more) = some ((ki, ex, key, val), 16 + key.length + val.length) := by
  obtain ⟨hc, hs, ho, ho2, he⟩ := rencS_ok h
  obtain ⟨hv, k1, k2, _, _, _, hk, hn, e0, e1, e2⟩ := rcheck_zero hc
  obtain ⟨ki, rfl⟩ := Int.eq_ofNat_of_zero_le (show 0 ≤ ki by omega)
  obtain ⟨ex, rfl⟩ := Int.eq_ofNat_of_zero_le e0
  rw [he]
  simp only [Int.toNat_natCast] at he ⊢
  have hb : rbytes v s.toNat o.toNat ki ex key val ++ more = rhead v ki key.length val.length ex ++ (be 4 (rsum v s.toNat o.toNat ki ex key val) ++ (key ++ (val ++ more))) := by
    simp only [rbytes, List.append_assoc]
  have hr : rread v (rbytes v s.toNat o.toNat ki ex key val ++ more) = (ki, ex, key.length, val.length) := by
    rw [hb]; exact rread_bytes hv _ (by omega) hk hn (by omega) (fun h => by have := e1 h; omega)
  have hkey : rkey (rbytes v s.toNat o.toNat ki ex key val ++ more) key.length = key := by
    have := cut_mid (rhead v ki key.length val.length ex ++ be 4 (rsum v s.toNat o.toNat ki ex key val)) key (val ++ more) 16 key.length (by simp [rhead_len, be_len]) rfl
    simpa only [rkey, rbytes, List.append_assoc] using this
  have hval : rval (rbytes v s.toNat o.toNat ki ex key val ++ more) key.length val.length = val := by
    have := cut_mid (rhead v ki key.length val.length ex ++ be 4 (rsum v s.toNat o.toNat ki ex key val) ++ key) val more (16 + key.length) val.length (by simp [rhead_len, be_len]; omega) rfl
    simpa only [rval, rbytes, List.append_assoc] using this
  have hlen := rbytes_len v s.toNat o.toNat ki ex key val
  unfold rdec
  simp only [hr, hkey, hval]
  rw [if_pos]
  refine ⟨by rw [List.length_append]; omega, hn, by rw [List.length_append]; omega, ?_⟩
  rw [he, List.take_append_of_le_length (by omega), List.take_of_length_le (by omega)]

/-- A record of which the end is missing is not decoded. -/
theorem rdec_cut {v s o ki ex : Int} {key val : List UInt8} (h : (rencS v s o ki ex key val).2 = 0) (n : Nat) (hn : n < 16 + key.length + val.length) :
    rdec v s o ((rencS v s o ki ex key val).1.take n) = none := by
  obtain ⟨hc, hs, ho, ho2, he⟩ := rencS_ok h
  obtain ⟨hv, k1, k2, _, _, _, hk, hnv, e0, e1, e2⟩ := rcheck_zero hc
  obtain ⟨ki, rfl⟩ := Int.eq_ofNat_of_zero_le (show 0 ≤ ki by omega)
  obtain ⟨ex, rfl⟩ := Int.eq_ofNat_of_zero_le e0
  rw [he]
  simp only [Int.toNat_natCast]
  have hlen := rbytes_len v s.toNat o.toNat ki ex key val
  unfold rdec
  by_cases h16 : n < 16
  · rw [if_neg]
    rintro ⟨h1, _⟩
    rw [List.length_take] at h1
    omega
  · have hb : (rbytes v s.toNat o.toNat ki ex key val).take n = rhead v ki key.length val.length ex ++ (be 4 (rsum v s.toNat o.toNat ki ex key val) ++ (key ++ val)).take (n - 12) := by
      have e : rbytes v s.toNat o.toNat ki ex key val = rhead v ki key.length val.length ex ++ (be 4 (rsum v s.toNat o.toNat ki ex key val) ++ (key ++ val)) := by simp only [rbytes, List.append_assoc]
      rw [e, List.take_append, List.take_of_length_le (by rw [rhead_len]; omega), rhead_len]
    have hr : rread v ((rbytes v s.toNat o.toNat ki ex key val).take n) = (ki, ex, key.length, val.length) := by
      rw [hb]; exact rread_bytes hv _ (by omega) hk hnv (by omega) (fun h => by have := e1 h; omega)
    simp only [hr]
    rw [if_neg]
    rintro ⟨_, _, h3, _⟩
    rw [List.length_take] at h3
    omega

/-- Two records have the same bytes exactly if they are equal. -/
theorem rencS_inj {v s o ki ex ki' ex' : Int} {key val key' val' : List UInt8} (h : (rencS v s o ki ex key val).2 = 0) (h' : (rencS v s o ki' ex' key' val').2 = 0) :
    (rencS v s o ki ex key val).1 = (rencS v s o ki' ex' key' val').1 ↔ ki = ki' ∧ ex = ex' ∧ key = key' ∧ val = val' := by
  constructor
  · intro e
    have h1 := rdec_enc h []
    rw [e, rdec_enc h' []] at h1
    injection h1 with h1
    simp only [Prod.mk.injEq] at h1
    exact ⟨h1.1.1.symm, h1.1.2.1.symm, h1.1.2.2.1.symm, h1.1.2.2.2.symm⟩
  · rintro ⟨rfl, rfl, rfl, rfl⟩; rfl

/-- A place that may not be: nothing is decoded. -/
theorem rdec_place {v s o : Int} {b : List UInt8} (h : s < 0 ∨ o < 0 ∨ 2147483647 < o ∨ (¬ v = 1 ∧ ¬ v = 2)) : rdec v s o b = none := by
  unfold rdec
  simp only
  rw [if_neg]
  rintro ⟨_, _, _, h4⟩
  have := (rencS_ok (congrArg Prod.snd h4))
  have hv := (rcheck_zero this.1).1
  omega
end Go.Proofs.YthgpmnblkhehkaaDoor
