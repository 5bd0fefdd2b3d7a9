/- The walk of the law WireRound. -/
import Derived.Test.YtmbelomekihdkaaWirePutLaw
namespace Go.Proofs.Ytmbelomekihdkaa
open Go.RowKit

theorem round_pos (x : Int) : -8 < x.tmod 8 ∧ x.tmod 8 < 8 ∧ 0 ≤ (x.tmod 8 + 8) % 8 ∧ (x.tmod 8 + 8) % 8 < 8 :=
  ⟨Int.lt_tmod_of_pos x (by decide), Int.tmod_lt_of_pos x (by decide), by omega, by omega⟩

theorem mask_u64 (n k : Nat) (hn : n < 18446744073709551616) (hk : k < 64) : bits .and .u64 (n : Int) ((2 ^ k - 1 : Nat) : Int) = ((n % 2 ^ k : Nat) : Int) := by
  have h2 : 2 ^ k - 1 < 18446744073709551616 := by
    have : 2 ^ k < 2 ^ 64 := Nat.pow_lt_pow_right (by decide) hk
    omega
  rw [u64_and_nat n (2 ^ k - 1) hn h2, Nat.and_two_pow_sub_one_eq_mod]

/-- The tail of the law's walk, for every width: from the reader on. -/
theorem put9 (n k : Nat) (h1 : 1 ≤ k) (h8 : k ≤ 8) : putB [9] n (k : Int) = 9 :: be k n := by
  unfold putB; rw [if_pos (by omega), Int.toNat_natCast]; rfl

set_option maxHeartbeats 1000000 in
theorem wireRound_1 (n : Nat) (width : Int) (w : World) (hn : n < 18446744073709551616) (hw : (width.tmod 8 + 8) % 8 = 0) :
    Calls Try.prog 7 #[.int .u64 (n : Int), .int .i64 width] w fun e w' => e = .returned (.bool true) ∧ Below w.heap.size w w' := by
  obtain ⟨q1, q2, q3, q4⟩ := round_pos width
  have hmask : bits .and .u64 (n : Int) 255 = ((n % 256 ^ 1 : Nat) : Int) := mask_u64 n 8 hn (by decide)
  obtain ⟨v, hv⟩ : ∃ v, n % 256 ^ 1 = v := ⟨_, rfl⟩
  rw [hv] at hmask
  have HV := Lib.hid hv
  clear hv
  go_enter Try.func7, Try.ntmps7
  go_wp2_with fail
  refine (put_any [9] _ _ _ (w.heap.size + 1) n 1 _ (Byt.new w _ _ _ [9] rfl) (by decide) (by simp) (by decide) (by decide)).mono ?_
  rw [show putB [9] n 1 = 9 :: be 1 n from put9 n 1 (by decide) (by decide)]
  rintro e w1 ⟨A1, c1, rfl, hown, hbel⟩
  have HB1 : Hid (Below w.heap.size w w1) := ((Below.refl _ _).alloc (Nat.le_refl _) _).trans (hbel.mono (by simp))
  have HO1 := Lib.hid hown.byt
  have HL : Hid ((9 :: be 1 n).length = 2) := by show _ = _; rw [List.length_cons, be_len]
  rw [HL.out] at HO1 ⊢
  clear hown hbel
  go_wp2_with fail
  refine (newReader_any _ _ _ _ _ w1 HO1.out (by decide) (Nat.le_refl _)).mono ?_
  rintro e w2 ⟨g, rfl, hr, hg, hb⟩
  have HR2 := Lib.hid hr
  have HG : Hid (w.heap.size ≤ g) := Nat.le_trans HB1.out.size hg
  have HB2 := Lib.hid (HB1.out.trans (hb.mono HB1.out.size))
  clear hr hg hb
  go_wp2_with fail
  refine (wireAwake_any _).mono ?_
  rintro e w3 ⟨rfl, hb3⟩
  have HR3 := Lib.hid (HR2.out.below hb3 HR2.out.lt)
  have HB3 := Lib.hid (HB2.out.trans (hb3.mono HB2.out.size))
  clear hb3
  go_wp2_with fail
  refine (num_ok g 1 (9 :: be 1 n) w3 HR3.out (by simp) (by decide) (by decide)).mono ?_
  rintro e w4 ⟨rfl, hr, hgr, _⟩
  have HR4 : Hid (Rdr w4 g (be 1 n) false) := hr
  have HB4 := Lib.hid (HB3.out.trans (only_below hgr HG.out HB3.out.size))
  rw [show num ((9 :: be 1 n).take 1) = 9 from rfl]
  clear hr hgr
  go_wp2_with fail
  refine (num_ok g 1 (be 1 n) w4 HR4.out (by rw [be_len]; exact Nat.le_refl _) (by decide) (by decide)).mono ?_
  rintro e w5 ⟨rfl, hr, hgr, _⟩
  have HR5 : Hid (Rdr w5 g [] false) := by have e : (be 1 n).drop 1 = [] := List.drop_eq_nil_of_le (by rw [be_len]; exact Nat.le_refl _); rw [e] at hr; exact hr
  have HB5 := Lib.hid (HB4.out.trans (only_below hgr HG.out HB4.out.size))
  rw [show num ((be 1 n).take 1) = v from by rw [List.take_of_length_le (by rw [be_len]; exact Nat.le_refl _), num_be, HV.out]]
  clear hr hgr
  go_wp2_with (first
    | (go_at_call 24; refine (ok_any g [] false w5 HR5.out).mono ?_; rintro e w' ⟨rfl, rfl⟩)
    | (go_at_call 25; refine (rest_any g [] false w5 HR5.out).mono ?_; rintro e w' ⟨rfl, rfl⟩))
  go_ret
  exact ⟨rfl, HB5.out⟩

set_option maxHeartbeats 1000000 in
theorem wireRound_2 (n : Nat) (width : Int) (w : World) (hn : n < 18446744073709551616) (hw : (width.tmod 8 + 8) % 8 = 1) :
    Calls Try.prog 7 #[.int .u64 (n : Int), .int .i64 width] w fun e w' => e = .returned (.bool true) ∧ Below w.heap.size w w' := by
  obtain ⟨q1, q2, q3, q4⟩ := round_pos width
  have hmask : bits .and .u64 (n : Int) 65535 = ((n % 256 ^ 2 : Nat) : Int) := mask_u64 n 16 hn (by decide)
  obtain ⟨v, hv⟩ : ∃ v, n % 256 ^ 2 = v := ⟨_, rfl⟩
  rw [hv] at hmask
  have HV := Lib.hid hv
  clear hv
  go_enter Try.func7, Try.ntmps7
  go_wp2_with fail
  refine (put_any [9] _ _ _ (w.heap.size + 1) n 2 _ (Byt.new w _ _ _ [9] rfl) (by decide) (by simp) (by decide) (by decide)).mono ?_
  rw [show putB [9] n 2 = 9 :: be 2 n from put9 n 2 (by decide) (by decide)]
  rintro e w1 ⟨A1, c1, rfl, hown, hbel⟩
  have HB1 : Hid (Below w.heap.size w w1) := ((Below.refl _ _).alloc (Nat.le_refl _) _).trans (hbel.mono (by simp))
  have HO1 := Lib.hid hown.byt
  have HL : Hid ((9 :: be 2 n).length = 3) := by show _ = _; rw [List.length_cons, be_len]
  rw [HL.out] at HO1 ⊢
  clear hown hbel
  go_wp2_with fail
  refine (newReader_any _ _ _ _ _ w1 HO1.out (by decide) (Nat.le_refl _)).mono ?_
  rintro e w2 ⟨g, rfl, hr, hg, hb⟩
  have HR2 := Lib.hid hr
  have HG : Hid (w.heap.size ≤ g) := Nat.le_trans HB1.out.size hg
  have HB2 := Lib.hid (HB1.out.trans (hb.mono HB1.out.size))
  clear hr hg hb
  go_wp2_with fail
  refine (wireAwake_any _).mono ?_
  rintro e w3 ⟨rfl, hb3⟩
  have HR3 := Lib.hid (HR2.out.below hb3 HR2.out.lt)
  have HB3 := Lib.hid (HB2.out.trans (hb3.mono HB2.out.size))
  clear hb3
  go_wp2_with fail
  refine (num_ok g 1 (9 :: be 2 n) w3 HR3.out (by simp) (by decide) (by decide)).mono ?_
  rintro e w4 ⟨rfl, hr, hgr, _⟩
  have HR4 : Hid (Rdr w4 g (be 2 n) false) := hr
  have HB4 := Lib.hid (HB3.out.trans (only_below hgr HG.out HB3.out.size))
  rw [show num ((9 :: be 2 n).take 1) = 9 from rfl]
  clear hr hgr
  go_wp2_with fail
  refine (num_ok g 2 (be 2 n) w4 HR4.out (by rw [be_len]; exact Nat.le_refl _) (by decide) (by decide)).mono ?_
  rintro e w5 ⟨rfl, hr, hgr, _⟩
  have HR5 : Hid (Rdr w5 g [] false) := by have e : (be 2 n).drop 2 = [] := List.drop_eq_nil_of_le (by rw [be_len]; exact Nat.le_refl _); rw [e] at hr; exact hr
  have HB5 := Lib.hid (HB4.out.trans (only_below hgr HG.out HB4.out.size))
  rw [show num ((be 2 n).take 2) = v from by rw [List.take_of_length_le (by rw [be_len]; exact Nat.le_refl _), num_be, HV.out]]
  clear hr hgr
  go_wp2_with (first
    | (go_at_call 24; refine (ok_any g [] false w5 HR5.out).mono ?_; rintro e w' ⟨rfl, rfl⟩)
    | (go_at_call 25; refine (rest_any g [] false w5 HR5.out).mono ?_; rintro e w' ⟨rfl, rfl⟩))
  go_ret
  exact ⟨rfl, HB5.out⟩

set_option maxHeartbeats 1000000 in
theorem wireRound_3 (n : Nat) (width : Int) (w : World) (hn : n < 18446744073709551616) (hw : (width.tmod 8 + 8) % 8 = 2) :
    Calls Try.prog 7 #[.int .u64 (n : Int), .int .i64 width] w fun e w' => e = .returned (.bool true) ∧ Below w.heap.size w w' := by
  obtain ⟨q1, q2, q3, q4⟩ := round_pos width
  have hmask : bits .and .u64 (n : Int) 16777215 = ((n % 256 ^ 3 : Nat) : Int) := mask_u64 n 24 hn (by decide)
  obtain ⟨v, hv⟩ : ∃ v, n % 256 ^ 3 = v := ⟨_, rfl⟩
  rw [hv] at hmask
  have HV := Lib.hid hv
  clear hv
  go_enter Try.func7, Try.ntmps7
  go_wp2_with fail
  refine (put_any [9] _ _ _ (w.heap.size + 1) n 3 _ (Byt.new w _ _ _ [9] rfl) (by decide) (by simp) (by decide) (by decide)).mono ?_
  rw [show putB [9] n 3 = 9 :: be 3 n from put9 n 3 (by decide) (by decide)]
  rintro e w1 ⟨A1, c1, rfl, hown, hbel⟩
  have HB1 : Hid (Below w.heap.size w w1) := ((Below.refl _ _).alloc (Nat.le_refl _) _).trans (hbel.mono (by simp))
  have HO1 := Lib.hid hown.byt
  have HL : Hid ((9 :: be 3 n).length = 4) := by show _ = _; rw [List.length_cons, be_len]
  rw [HL.out] at HO1 ⊢
  clear hown hbel
  go_wp2_with fail
  refine (newReader_any _ _ _ _ _ w1 HO1.out (by decide) (Nat.le_refl _)).mono ?_
  rintro e w2 ⟨g, rfl, hr, hg, hb⟩
  have HR2 := Lib.hid hr
  have HG : Hid (w.heap.size ≤ g) := Nat.le_trans HB1.out.size hg
  have HB2 := Lib.hid (HB1.out.trans (hb.mono HB1.out.size))
  clear hr hg hb
  go_wp2_with fail
  refine (wireAwake_any _).mono ?_
  rintro e w3 ⟨rfl, hb3⟩
  have HR3 := Lib.hid (HR2.out.below hb3 HR2.out.lt)
  have HB3 := Lib.hid (HB2.out.trans (hb3.mono HB2.out.size))
  clear hb3
  go_wp2_with fail
  refine (num_ok g 1 (9 :: be 3 n) w3 HR3.out (by simp) (by decide) (by decide)).mono ?_
  rintro e w4 ⟨rfl, hr, hgr, _⟩
  have HR4 : Hid (Rdr w4 g (be 3 n) false) := hr
  have HB4 := Lib.hid (HB3.out.trans (only_below hgr HG.out HB3.out.size))
  rw [show num ((9 :: be 3 n).take 1) = 9 from rfl]
  clear hr hgr
  go_wp2_with fail
  refine (num_ok g 3 (be 3 n) w4 HR4.out (by rw [be_len]; exact Nat.le_refl _) (by decide) (by decide)).mono ?_
  rintro e w5 ⟨rfl, hr, hgr, _⟩
  have HR5 : Hid (Rdr w5 g [] false) := by have e : (be 3 n).drop 3 = [] := List.drop_eq_nil_of_le (by rw [be_len]; exact Nat.le_refl _); rw [e] at hr; exact hr
  have HB5 := Lib.hid (HB4.out.trans (only_below hgr HG.out HB4.out.size))
  rw [show num ((be 3 n).take 3) = v from by rw [List.take_of_length_le (by rw [be_len]; exact Nat.le_refl _), num_be, HV.out]]
  clear hr hgr
  go_wp2_with (first
    | (go_at_call 24; refine (ok_any g [] false w5 HR5.out).mono ?_; rintro e w' ⟨rfl, rfl⟩)
    | (go_at_call 25; refine (rest_any g [] false w5 HR5.out).mono ?_; rintro e w' ⟨rfl, rfl⟩))
  go_ret
  exact ⟨rfl, HB5.out⟩

set_option maxHeartbeats 1000000 in
theorem wireRound_4 (n : Nat) (width : Int) (w : World) (hn : n < 18446744073709551616) (hw : (width.tmod 8 + 8) % 8 = 3) :
    Calls Try.prog 7 #[.int .u64 (n : Int), .int .i64 width] w fun e w' => e = .returned (.bool true) ∧ Below w.heap.size w w' := by
  obtain ⟨q1, q2, q3, q4⟩ := round_pos width
  have hmask : bits .and .u64 (n : Int) 4294967295 = ((n % 256 ^ 4 : Nat) : Int) := mask_u64 n 32 hn (by decide)
  obtain ⟨v, hv⟩ : ∃ v, n % 256 ^ 4 = v := ⟨_, rfl⟩
  rw [hv] at hmask
  have HV := Lib.hid hv
  clear hv
  go_enter Try.func7, Try.ntmps7
  go_wp2_with fail
  refine (put_any [9] _ _ _ (w.heap.size + 1) n 4 _ (Byt.new w _ _ _ [9] rfl) (by decide) (by simp) (by decide) (by decide)).mono ?_
  rw [show putB [9] n 4 = 9 :: be 4 n from put9 n 4 (by decide) (by decide)]
  rintro e w1 ⟨A1, c1, rfl, hown, hbel⟩
  have HB1 : Hid (Below w.heap.size w w1) := ((Below.refl _ _).alloc (Nat.le_refl _) _).trans (hbel.mono (by simp))
  have HO1 := Lib.hid hown.byt
  have HL : Hid ((9 :: be 4 n).length = 5) := by show _ = _; rw [List.length_cons, be_len]
  rw [HL.out] at HO1 ⊢
  clear hown hbel
  go_wp2_with fail
  refine (newReader_any _ _ _ _ _ w1 HO1.out (by decide) (Nat.le_refl _)).mono ?_
  rintro e w2 ⟨g, rfl, hr, hg, hb⟩
  have HR2 := Lib.hid hr
  have HG : Hid (w.heap.size ≤ g) := Nat.le_trans HB1.out.size hg
  have HB2 := Lib.hid (HB1.out.trans (hb.mono HB1.out.size))
  clear hr hg hb
  go_wp2_with fail
  refine (wireAwake_any _).mono ?_
  rintro e w3 ⟨rfl, hb3⟩
  have HR3 := Lib.hid (HR2.out.below hb3 HR2.out.lt)
  have HB3 := Lib.hid (HB2.out.trans (hb3.mono HB2.out.size))
  clear hb3
  go_wp2_with fail
  refine (num_ok g 1 (9 :: be 4 n) w3 HR3.out (by simp) (by decide) (by decide)).mono ?_
  rintro e w4 ⟨rfl, hr, hgr, _⟩
  have HR4 : Hid (Rdr w4 g (be 4 n) false) := hr
  have HB4 := Lib.hid (HB3.out.trans (only_below hgr HG.out HB3.out.size))
  rw [show num ((9 :: be 4 n).take 1) = 9 from rfl]
  clear hr hgr
  go_wp2_with fail
  refine (num_ok g 4 (be 4 n) w4 HR4.out (by rw [be_len]; exact Nat.le_refl _) (by decide) (by decide)).mono ?_
  rintro e w5 ⟨rfl, hr, hgr, _⟩
  have HR5 : Hid (Rdr w5 g [] false) := by have e : (be 4 n).drop 4 = [] := List.drop_eq_nil_of_le (by rw [be_len]; exact Nat.le_refl _); rw [e] at hr; exact hr
  have HB5 := Lib.hid (HB4.out.trans (only_below hgr HG.out HB4.out.size))
  rw [show num ((be 4 n).take 4) = v from by rw [List.take_of_length_le (by rw [be_len]; exact Nat.le_refl _), num_be, HV.out]]
  clear hr hgr
  go_wp2_with (first
    | (go_at_call 24; refine (ok_any g [] false w5 HR5.out).mono ?_; rintro e w' ⟨rfl, rfl⟩)
    | (go_at_call 25; refine (rest_any g [] false w5 HR5.out).mono ?_; rintro e w' ⟨rfl, rfl⟩))
  go_ret
  exact ⟨rfl, HB5.out⟩

set_option maxHeartbeats 1000000 in
theorem wireRound_5 (n : Nat) (width : Int) (w : World) (hn : n < 18446744073709551616) (hw : (width.tmod 8 + 8) % 8 = 4) :
    Calls Try.prog 7 #[.int .u64 (n : Int), .int .i64 width] w fun e w' => e = .returned (.bool true) ∧ Below w.heap.size w w' := by
  obtain ⟨q1, q2, q3, q4⟩ := round_pos width
  have hmask : bits .and .u64 (n : Int) 1099511627775 = ((n % 256 ^ 5 : Nat) : Int) := mask_u64 n 40 hn (by decide)
  obtain ⟨v, hv⟩ : ∃ v, n % 256 ^ 5 = v := ⟨_, rfl⟩
  rw [hv] at hmask
  have HV := Lib.hid hv
  clear hv
  go_enter Try.func7, Try.ntmps7
  go_wp2_with fail
  refine (put_any [9] _ _ _ (w.heap.size + 1) n 5 _ (Byt.new w _ _ _ [9] rfl) (by decide) (by simp) (by decide) (by decide)).mono ?_
  rw [show putB [9] n 5 = 9 :: be 5 n from put9 n 5 (by decide) (by decide)]
  rintro e w1 ⟨A1, c1, rfl, hown, hbel⟩
  have HB1 : Hid (Below w.heap.size w w1) := ((Below.refl _ _).alloc (Nat.le_refl _) _).trans (hbel.mono (by simp))
  have HO1 := Lib.hid hown.byt
  have HL : Hid ((9 :: be 5 n).length = 6) := by show _ = _; rw [List.length_cons, be_len]
  rw [HL.out] at HO1 ⊢
  clear hown hbel
  go_wp2_with fail
  refine (newReader_any _ _ _ _ _ w1 HO1.out (by decide) (Nat.le_refl _)).mono ?_
  rintro e w2 ⟨g, rfl, hr, hg, hb⟩
  have HR2 := Lib.hid hr
  have HG : Hid (w.heap.size ≤ g) := Nat.le_trans HB1.out.size hg
  have HB2 := Lib.hid (HB1.out.trans (hb.mono HB1.out.size))
  clear hr hg hb
  go_wp2_with fail
  refine (wireAwake_any _).mono ?_
  rintro e w3 ⟨rfl, hb3⟩
  have HR3 := Lib.hid (HR2.out.below hb3 HR2.out.lt)
  have HB3 := Lib.hid (HB2.out.trans (hb3.mono HB2.out.size))
  clear hb3
  go_wp2_with fail
  refine (num_ok g 1 (9 :: be 5 n) w3 HR3.out (by simp) (by decide) (by decide)).mono ?_
  rintro e w4 ⟨rfl, hr, hgr, _⟩
  have HR4 : Hid (Rdr w4 g (be 5 n) false) := hr
  have HB4 := Lib.hid (HB3.out.trans (only_below hgr HG.out HB3.out.size))
  rw [show num ((9 :: be 5 n).take 1) = 9 from rfl]
  clear hr hgr
  go_wp2_with fail
  refine (num_ok g 5 (be 5 n) w4 HR4.out (by rw [be_len]; exact Nat.le_refl _) (by decide) (by decide)).mono ?_
  rintro e w5 ⟨rfl, hr, hgr, _⟩
  have HR5 : Hid (Rdr w5 g [] false) := by have e : (be 5 n).drop 5 = [] := List.drop_eq_nil_of_le (by rw [be_len]; exact Nat.le_refl _); rw [e] at hr; exact hr
  have HB5 := Lib.hid (HB4.out.trans (only_below hgr HG.out HB4.out.size))
  rw [show num ((be 5 n).take 5) = v from by rw [List.take_of_length_le (by rw [be_len]; exact Nat.le_refl _), num_be, HV.out]]
  clear hr hgr
  go_wp2_with (first
    | (go_at_call 24; refine (ok_any g [] false w5 HR5.out).mono ?_; rintro e w' ⟨rfl, rfl⟩)
    | (go_at_call 25; refine (rest_any g [] false w5 HR5.out).mono ?_; rintro e w' ⟨rfl, rfl⟩))
  go_ret
  exact ⟨rfl, HB5.out⟩

set_option maxHeartbeats 1000000 in
theorem wireRound_6 (n : Nat) (width : Int) (w : World) (hn : n < 18446744073709551616) (hw : (width.tmod 8 + 8) % 8 = 5) :
    Calls Try.prog 7 #[.int .u64 (n : Int), .int .i64 width] w fun e w' => e = .returned (.bool true) ∧ Below w.heap.size w w' := by
  obtain ⟨q1, q2, q3, q4⟩ := round_pos width
  have hmask : bits .and .u64 (n : Int) 281474976710655 = ((n % 256 ^ 6 : Nat) : Int) := mask_u64 n 48 hn (by decide)
  obtain ⟨v, hv⟩ : ∃ v, n % 256 ^ 6 = v := ⟨_, rfl⟩
  rw [hv] at hmask
  have HV := Lib.hid hv
  clear hv
  go_enter Try.func7, Try.ntmps7
  go_wp2_with fail
  refine (put_any [9] _ _ _ (w.heap.size + 1) n 6 _ (Byt.new w _ _ _ [9] rfl) (by decide) (by simp) (by decide) (by decide)).mono ?_
  rw [show putB [9] n 6 = 9 :: be 6 n from put9 n 6 (by decide) (by decide)]
  rintro e w1 ⟨A1, c1, rfl, hown, hbel⟩
  have HB1 : Hid (Below w.heap.size w w1) := ((Below.refl _ _).alloc (Nat.le_refl _) _).trans (hbel.mono (by simp))
  have HO1 := Lib.hid hown.byt
  have HL : Hid ((9 :: be 6 n).length = 7) := by show _ = _; rw [List.length_cons, be_len]
  rw [HL.out] at HO1 ⊢
  clear hown hbel
  go_wp2_with fail
  refine (newReader_any _ _ _ _ _ w1 HO1.out (by decide) (Nat.le_refl _)).mono ?_
  rintro e w2 ⟨g, rfl, hr, hg, hb⟩
  have HR2 := Lib.hid hr
  have HG : Hid (w.heap.size ≤ g) := Nat.le_trans HB1.out.size hg
  have HB2 := Lib.hid (HB1.out.trans (hb.mono HB1.out.size))
  clear hr hg hb
  go_wp2_with fail
  refine (wireAwake_any _).mono ?_
  rintro e w3 ⟨rfl, hb3⟩
  have HR3 := Lib.hid (HR2.out.below hb3 HR2.out.lt)
  have HB3 := Lib.hid (HB2.out.trans (hb3.mono HB2.out.size))
  clear hb3
  go_wp2_with fail
  refine (num_ok g 1 (9 :: be 6 n) w3 HR3.out (by simp) (by decide) (by decide)).mono ?_
  rintro e w4 ⟨rfl, hr, hgr, _⟩
  have HR4 : Hid (Rdr w4 g (be 6 n) false) := hr
  have HB4 := Lib.hid (HB3.out.trans (only_below hgr HG.out HB3.out.size))
  rw [show num ((9 :: be 6 n).take 1) = 9 from rfl]
  clear hr hgr
  go_wp2_with fail
  refine (num_ok g 6 (be 6 n) w4 HR4.out (by rw [be_len]; exact Nat.le_refl _) (by decide) (by decide)).mono ?_
  rintro e w5 ⟨rfl, hr, hgr, _⟩
  have HR5 : Hid (Rdr w5 g [] false) := by have e : (be 6 n).drop 6 = [] := List.drop_eq_nil_of_le (by rw [be_len]; exact Nat.le_refl _); rw [e] at hr; exact hr
  have HB5 := Lib.hid (HB4.out.trans (only_below hgr HG.out HB4.out.size))
  rw [show num ((be 6 n).take 6) = v from by rw [List.take_of_length_le (by rw [be_len]; exact Nat.le_refl _), num_be, HV.out]]
  clear hr hgr
  go_wp2_with (first
    | (go_at_call 24; refine (ok_any g [] false w5 HR5.out).mono ?_; rintro e w' ⟨rfl, rfl⟩)
    | (go_at_call 25; refine (rest_any g [] false w5 HR5.out).mono ?_; rintro e w' ⟨rfl, rfl⟩))
  go_ret
  exact ⟨rfl, HB5.out⟩

set_option maxHeartbeats 1000000 in
theorem wireRound_7 (n : Nat) (width : Int) (w : World) (hn : n < 18446744073709551616) (hw : (width.tmod 8 + 8) % 8 = 6) :
    Calls Try.prog 7 #[.int .u64 (n : Int), .int .i64 width] w fun e w' => e = .returned (.bool true) ∧ Below w.heap.size w w' := by
  obtain ⟨q1, q2, q3, q4⟩ := round_pos width
  have hmask : bits .and .u64 (n : Int) 72057594037927935 = ((n % 256 ^ 7 : Nat) : Int) := mask_u64 n 56 hn (by decide)
  obtain ⟨v, hv⟩ : ∃ v, n % 256 ^ 7 = v := ⟨_, rfl⟩
  rw [hv] at hmask
  have HV := Lib.hid hv
  clear hv
  go_enter Try.func7, Try.ntmps7
  go_wp2_with fail
  refine (put_any [9] _ _ _ (w.heap.size + 1) n 7 _ (Byt.new w _ _ _ [9] rfl) (by decide) (by simp) (by decide) (by decide)).mono ?_
  rw [show putB [9] n 7 = 9 :: be 7 n from put9 n 7 (by decide) (by decide)]
  rintro e w1 ⟨A1, c1, rfl, hown, hbel⟩
  have HB1 : Hid (Below w.heap.size w w1) := ((Below.refl _ _).alloc (Nat.le_refl _) _).trans (hbel.mono (by simp))
  have HO1 := Lib.hid hown.byt
  have HL : Hid ((9 :: be 7 n).length = 8) := by show _ = _; rw [List.length_cons, be_len]
  rw [HL.out] at HO1 ⊢
  clear hown hbel
  go_wp2_with fail
  refine (newReader_any _ _ _ _ _ w1 HO1.out (by decide) (Nat.le_refl _)).mono ?_
  rintro e w2 ⟨g, rfl, hr, hg, hb⟩
  have HR2 := Lib.hid hr
  have HG : Hid (w.heap.size ≤ g) := Nat.le_trans HB1.out.size hg
  have HB2 := Lib.hid (HB1.out.trans (hb.mono HB1.out.size))
  clear hr hg hb
  go_wp2_with fail
  refine (wireAwake_any _).mono ?_
  rintro e w3 ⟨rfl, hb3⟩
  have HR3 := Lib.hid (HR2.out.below hb3 HR2.out.lt)
  have HB3 := Lib.hid (HB2.out.trans (hb3.mono HB2.out.size))
  clear hb3
  go_wp2_with fail
  refine (num_ok g 1 (9 :: be 7 n) w3 HR3.out (by simp) (by decide) (by decide)).mono ?_
  rintro e w4 ⟨rfl, hr, hgr, _⟩
  have HR4 : Hid (Rdr w4 g (be 7 n) false) := hr
  have HB4 := Lib.hid (HB3.out.trans (only_below hgr HG.out HB3.out.size))
  rw [show num ((9 :: be 7 n).take 1) = 9 from rfl]
  clear hr hgr
  go_wp2_with fail
  refine (num_ok g 7 (be 7 n) w4 HR4.out (by rw [be_len]; exact Nat.le_refl _) (by decide) (by decide)).mono ?_
  rintro e w5 ⟨rfl, hr, hgr, _⟩
  have HR5 : Hid (Rdr w5 g [] false) := by have e : (be 7 n).drop 7 = [] := List.drop_eq_nil_of_le (by rw [be_len]; exact Nat.le_refl _); rw [e] at hr; exact hr
  have HB5 := Lib.hid (HB4.out.trans (only_below hgr HG.out HB4.out.size))
  rw [show num ((be 7 n).take 7) = v from by rw [List.take_of_length_le (by rw [be_len]; exact Nat.le_refl _), num_be, HV.out]]
  clear hr hgr
  go_wp2_with (first
    | (go_at_call 24; refine (ok_any g [] false w5 HR5.out).mono ?_; rintro e w' ⟨rfl, rfl⟩)
    | (go_at_call 25; refine (rest_any g [] false w5 HR5.out).mono ?_; rintro e w' ⟨rfl, rfl⟩))
  go_ret
  exact ⟨rfl, HB5.out⟩

set_option maxHeartbeats 1000000 in
theorem wireRound_8 (n : Nat) (width : Int) (w : World) (hn : n < 18446744073709551616) (hw : (width.tmod 8 + 8) % 8 = 7) :
    Calls Try.prog 7 #[.int .u64 (n : Int), .int .i64 width] w fun e w' => e = .returned (.bool true) ∧ Below w.heap.size w w' := by
  obtain ⟨q1, q2, q3, q4⟩ := round_pos width
  have hfull : n % 256 ^ 8 = n := Nat.mod_eq_of_lt hn
  have HV := Lib.hid hfull
  clear hfull
  go_enter Try.func7, Try.ntmps7
  go_wp2_with fail
  refine (put_any [9] _ _ _ (w.heap.size + 1) n 8 _ (Byt.new w _ _ _ [9] rfl) (by decide) (by simp) (by decide) (by decide)).mono ?_
  rw [show putB [9] n 8 = 9 :: be 8 n from put9 n 8 (by decide) (by decide)]
  rintro e w1 ⟨A1, c1, rfl, hown, hbel⟩
  have HB1 : Hid (Below w.heap.size w w1) := ((Below.refl _ _).alloc (Nat.le_refl _) _).trans (hbel.mono (by simp))
  have HO1 := Lib.hid hown.byt
  have HL : Hid ((9 :: be 8 n).length = 9) := by show _ = _; rw [List.length_cons, be_len]
  rw [HL.out] at HO1 ⊢
  clear hown hbel
  go_wp2_with fail
  refine (newReader_any _ _ _ _ _ w1 HO1.out (by decide) (Nat.le_refl _)).mono ?_
  rintro e w2 ⟨g, rfl, hr, hg, hb⟩
  have HR2 := Lib.hid hr
  have HG : Hid (w.heap.size ≤ g) := Nat.le_trans HB1.out.size hg
  have HB2 := Lib.hid (HB1.out.trans (hb.mono HB1.out.size))
  clear hr hg hb
  go_wp2_with fail
  refine (wireAwake_any _).mono ?_
  rintro e w3 ⟨rfl, hb3⟩
  have HR3 := Lib.hid (HR2.out.below hb3 HR2.out.lt)
  have HB3 := Lib.hid (HB2.out.trans (hb3.mono HB2.out.size))
  clear hb3
  go_wp2_with fail
  refine (num_ok g 1 (9 :: be 8 n) w3 HR3.out (by simp) (by decide) (by decide)).mono ?_
  rintro e w4 ⟨rfl, hr, hgr, _⟩
  have HR4 : Hid (Rdr w4 g (be 8 n) false) := hr
  have HB4 := Lib.hid (HB3.out.trans (only_below hgr HG.out HB3.out.size))
  rw [show num ((9 :: be 8 n).take 1) = 9 from rfl]
  clear hr hgr
  go_wp2_with fail
  refine (num_ok g 8 (be 8 n) w4 HR4.out (by rw [be_len]; exact Nat.le_refl _) (by decide) (by decide)).mono ?_
  rintro e w5 ⟨rfl, hr, hgr, _⟩
  have HR5 : Hid (Rdr w5 g [] false) := by have e : (be 8 n).drop 8 = [] := List.drop_eq_nil_of_le (by rw [be_len]; exact Nat.le_refl _); rw [e] at hr; exact hr
  have HB5 := Lib.hid (HB4.out.trans (only_below hgr HG.out HB4.out.size))
  rw [show num ((be 8 n).take 8) = n from by rw [List.take_of_length_le (by rw [be_len]; exact Nat.le_refl _), num_be, HV.out]]
  clear hr hgr
  go_wp2_with (first
    | (go_at_call 24; refine (ok_any g [] false w5 HR5.out).mono ?_; rintro e w' ⟨rfl, rfl⟩)
    | (go_at_call 25; refine (rest_any g [] false w5 HR5.out).mono ?_; rintro e w' ⟨rfl, rfl⟩))
  go_ret
  exact ⟨rfl, HB5.out⟩

theorem wireRound_any (n : Nat) (width : Int) (w : World) (hn : n < 18446744073709551616) :
    Calls Try.prog 7 #[.int .u64 (n : Int), .int .i64 width] w fun e w' => e = .returned (.bool true) ∧ Below w.heap.size w w' := by
  have h := round_pos width
  have h8 : (width.tmod 8 + 8) % 8 = 0 ∨ (width.tmod 8 + 8) % 8 = 1 ∨ (width.tmod 8 + 8) % 8 = 2 ∨ (width.tmod 8 + 8) % 8 = 3 ∨ (width.tmod 8 + 8) % 8 = 4 ∨ (width.tmod 8 + 8) % 8 = 5 ∨ (width.tmod 8 + 8) % 8 = 6 ∨ (width.tmod 8 + 8) % 8 = 7 := by omega
  rcases h8 with h | h | h | h | h | h | h | h
  · exact wireRound_1 n width w hn h
  · exact wireRound_2 n width w hn h
  · exact wireRound_3 n width w hn h
  · exact wireRound_4 n width w hn h
  · exact wireRound_5 n width w hn h
  · exact wireRound_6 n width w hn h
  · exact wireRound_7 n width w hn h
  · exact wireRound_8 n width w hn h
end Go.Proofs.Ytmbelomekihdkaa
