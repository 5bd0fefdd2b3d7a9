/- The walk of the law FrameOther. -/
import Derived.Test.YtepbchaeeldjmaaDoorFrameLaw
namespace Go.Proofs.YtepbchaeeldjmaaDoor
open Go.RowKit

theorem i64_low32 (q : Int) : bits .and .i64 q 4294967295 = ((q % 4294967296).toNat : Int) := by
  have h1 : (BitVec.ofInt 64 4294967295).toNat = 2 ^ 32 - 1 := by decide
  have key : (BitVec.ofInt 64 q &&& BitVec.ofInt 64 4294967295).toNat = (q % ((2 ^ 64 : Nat) : Int)).toNat % 2 ^ 32 := by
    rw [BitVec.toNat_and, BitVec.toNat_ofInt, h1, Nat.and_two_pow_sub_one_eq_mod]
  show IntKind.i64.wrap ((BitVec.ofInt 64 q &&& BitVec.ofInt 64 4294967295).toNat : Nat) = _
  rw [key, IntKind.wrap_i64]
  omega
theorem i64_high32 (s : Nat) (hs : s < 9223372036854775808) : bits .andNot .i64 (s : Int) 4294967295 = ((s / 4294967296 * 4294967296 : Nat) : Int) := by
  have h1 : (BitVec.ofInt 64 4294967295).toNat = 4294967295 := by decide
  show IntKind.i64.wrap ((BitVec.ofInt 64 (s : Int) &&& ~~~BitVec.ofInt 64 4294967295).toNat : Nat) = _
  rw [BitVec.toNat_and, BitVec.toNat_not, ofInt_u64 s (by omega), h1, show 2 ^ 64 - 1 - 4294967295 = 18446744069414584320 by decide, nat_hi64_32, IntKind.wrap_i64]
  omega
theorem i64_join32 (h l : Nat) (hh : h % 4294967296 = 0) (hl : l < 4294967296) (hb : h < 9223372036854775808) : bits .or .i64 (h : Int) (l : Int) = ((h + l : Nat) : Int) := by
  show IntKind.i64.wrap ((BitVec.ofInt 64 (h : Int) ||| BitVec.ofInt 64 (l : Int)).toNat : Nat) = _
  rw [BitVec.toNat_or, ofInt_u64 h (by omega), ofInt_u64 l (by omega), nat_join32 h l hh hl, IntKind.wrap_i64]
  omega

theorem dec_cases {kind salt sector kind' salt' sector' : Int} {p : List UInt8} {c : Prop} [Decidable c]
    (hd : (dec kind' salt' sector' (frame kind.toNat salt.toNat sector.toNat p)).isSome = decide c) :
    (c ∧ ∃ y, dec kind' salt' sector' (frame kind.toNat salt.toNat sector.toNat p) = some y ∧ y.length = 59) ∨ (¬ c ∧ dec kind' salt' sector' (frame kind.toNat salt.toNat sector.toNat p) = none) := by
  by_cases hc : c
  · rw [decide_eq_true hc] at hd
    obtain ⟨y, hy⟩ := Option.isSome_iff_exists.1 hd
    obtain ⟨_, h64, rfl, _⟩ := dec_some hy
    exact .inl ⟨hc, _, hy, pay_len h64⟩
  · rw [decide_eq_false hc] at hd
    exact .inr ⟨hc, by simpa using hd⟩

set_option maxHeartbeats 4000000 in
theorem frameOther_any (k s t k' s' t' : Int) (bs : List UInt8) (A : Option Addr) (n cap : Nat) (w : World) (ht : TabAt w) (h0 : 0 < w.heap.size) (hb : Byt w w.heap.size A n bs) (hn : n ≤ cap) (hcap : cap ≤ 9223372036854775807) (hs : s ≤ 9223372036854775807) :
    Calls Tryd.prog 5 #[.agg #[.int .i64 k, .int .i64 s, .int .i64 t], .agg #[.int .i64 k', .int .i64 s', .int .i64 t'], .slice A n cap] w fun e w' => e = .returned (.bool true) ∧ Below w.heap.size w w' := by
  have HT : Hid (∀ w', Below w.heap.size w w' → TabAt w' ∧ 0 < w'.heap.size) := fun w' hw => ⟨ht.below hw h0, Nat.lt_of_lt_of_le h0 hw.size⟩
  obtain ⟨m, p, hm59, hp, hpl, hmn⟩ : ∃ m p, m ≤ 59 ∧ (∀ w', Below w.heap.size w w' → Byt w' w.heap.size A m p) ∧ p.length = m ∧ ((n ≤ 59 ∧ m = n) ∨ (59 < n ∧ m = 59)) := by
    by_cases h : n ≤ 59
    · exact ⟨n, bs, h, fun w' hw => hb.below hw, hb.len, .inl ⟨h, rfl⟩⟩
    · exact ⟨59, bs.take 59, by omega, fun w' hw => (hb.take (by omega)).below hw, (hb.take (by omega)).len, .inr ⟨by omega, rfl⟩⟩
  have HB := Lib.hid hp
  clear ht h0 hb hp
  cases hm : may k s t
  · have HE : Hid (encS k s t p = ([], 2)) := by show encS _ _ _ _ = _; unfold encS; rw [if_neg (by rw [hm]; decide)]
    clear hm
    rcases hmn with ⟨h59, rfl⟩ | ⟨h59, rfl⟩
    all_goals
      go_enter Tryd.func5, Tryd.ntmps5
      go_wp2_with fail
      have HB0 := Lib.hid (((Below.refl w.heap.size w).alloc (Nat.le_refl _) (.cells #[.int .i64 k, .int .i64 s, .int .i64 t] 23)).alloc (by simp) (.cells #[.int .i64 k', .int .i64 s', .int .i64 t'] 23))
      refine (encode_any k s t p _ _ _ w.heap.size _ (HT.out _ HB0.out).1 (HT.out _ HB0.out).2 (HB.out _ HB0.out) ?_ (by simp; omega) hs _ HE.out).mono ?_
      · omega
      rintro e w1 ⟨A1, c1, rfl, hown, hbel⟩
      have HB1 : Hid (Below w.heap.size w w1) := HB0.out.trans (hbel.mono (by simp; omega))
      clear hown hbel
      go_wp2_with fail
      refine (frameAwake_any w1 (HT.out _ HB1.out).1 (HT.out _ HB1.out).2).mono ?_
      rintro e w3 ⟨rfl, hbel⟩
      have HB3 := Lib.hid (HB1.out.trans (hbel.mono HB1.out.size))
      clear hbel
      go_wp2
      go_ret
      exact ⟨rfl, HB3.out⟩
  · have hmi := (may_iff _ _ _).1 hm
    obtain ⟨x, rfl⟩ : ∃ x : UInt8, k = (x.toNat : Int) := ⟨UInt8.ofNat k.toNat, by simp; omega⟩
    obtain ⟨s, rfl⟩ := Int.eq_ofNat_of_zero_le hmi.2.2.1
    obtain ⟨t, rfl⟩ := Int.eq_ofNat_of_zero_le hmi.2.2.2.1
    have hx := x.toNat_lt
    have hp59 : p.length ≤ 59 := by omega
    have r1 := i64_high32 s (by omega)
    have r2 := i64_low32 s'
    obtain ⟨H, hH⟩ : ∃ H, s / 4294967296 * 4294967296 = H := ⟨_, rfl⟩
    obtain ⟨L, hL⟩ : ∃ L, (s' % 4294967296).toNat = L := ⟨_, rfl⟩
    have r3 := i64_join32 H L (by omega) (by omega) (by omega)
    obtain ⟨v, hv⟩ : ∃ v, H + L = v := ⟨_, rfl⟩
    rw [hH] at r1
    rw [hL] at r2
    rw [hv] at r3
    have hv63 : v ≤ 9223372036854775807 := by omega
    have hvs : (s : Int).toNat / 4294967296 = (v : Int).toNat / 4294967296 := by rw [Int.toNat_natCast, Int.toNat_natCast]; omega
    have c1 := dec_cases (other_sector (sector' := t') hm hp59)
    have c2 := dec_cases (other_kind (kind' := k') hm hp59)
    have c3 := dec_cases (other_salt (salt' := (v : Int)) hm hp59 (Int.natCast_nonneg _) hvs)
    rw [Int.toNat_natCast, Int.toNat_natCast, Int.toNat_natCast] at c1 c2 c3
    obtain ⟨fr, hfr⟩ : ∃ fr, frame x.toNat s t p = fr := ⟨_, rfl⟩
    have HE : Hid (encS x.toNat s t p = (fr, 0)) := by
      show encS _ _ _ _ = _
      unfold encS
      rw [if_pos hm, if_pos hp59, Int.toNat_natCast, Int.toNat_natCast, Int.toNat_natCast, hfr]
    have HFL : Hid (fr.length = 64) := by rw [← hfr]; exact frame_len hp59
    rw [hfr] at c1 c2 c3
    have C1 := Lib.hid c1
    have C2 := Lib.hid c2
    have C3 := Lib.hid c3
    have R1 := Lib.hid r1
    have R2 := Lib.hid r2
    have R3 := Lib.hid r3
    have hmi2 : t < 1048576 := by omega
    clear hm hmi hfr c1 c2 c3 hH hL hv r1 r2 r3 hvs hpl hp59
    rcases hmn with ⟨h59, rfl⟩ | ⟨h59, rfl⟩
    all_goals
      go_enter Tryd.func5, Tryd.ntmps5
      go_wp2_with fail
      have HB0 := Lib.hid (((Below.refl w.heap.size w).alloc (Nat.le_refl _) (.cells #[.int .i64 x.toNat, .int .i64 s, .int .i64 t] 23)).alloc (by simp) (.cells #[.int .i64 k', .int .i64 s', .int .i64 t'] 23))
      have HP0 : Hid (Box3 ((w.alloc (.cells #[.int .i64 x.toNat, .int .i64 s, .int .i64 t] 23)).alloc (.cells #[.int .i64 k', .int .i64 s', .int .i64 t'] 23)) w.heap.size x.toNat s t) := (Box3.new w _ _ _ _).below ((Below.refl (w.heap.size + 1) _).alloc (by simp) _) (by omega)
      have HQ0 : Hid (Box3 ((w.alloc (.cells #[.int .i64 x.toNat, .int .i64 s, .int .i64 t] 23)).alloc (.cells #[.int .i64 k', .int .i64 s', .int .i64 t'] 23)) (w.heap.size + 1) k' s' t') := by have := Box3.new (w.alloc (.cells #[.int .i64 x.toNat, .int .i64 s, .int .i64 t] 23)) 23 k' s' t'; rw [World.size_alloc] at this; exact this
      refine (encode_any x.toNat s t p _ _ _ w.heap.size _ (HT.out _ HB0.out).1 (HT.out _ HB0.out).2 (HB.out _ HB0.out) ?_ (by simp; omega) hs _ HE.out).mono ?_
      · omega
      rintro e w1 ⟨A1, c1, rfl, hown, hbel⟩
      simp only [HFL.out] at hown ⊢
      obtain ⟨_, _, hv, hc1, hc2⟩ := hown.form
      injection hv with hv1 hv2 hv3
      subst hv3
      have HO1 := Lib.hid hown
      have HB1 : Hid (Below w.heap.size w w1) := HB0.out.trans (hbel.mono (by simp; omega))
      have hw1 : w.heap.size + 1 < w1.heap.size := by have := hbel.size; simp at this; omega
      have HP1 := Lib.hid (HP0.out.below hbel (by simp; omega))
      have HQ1 := Lib.hid (HQ0.out.below hbel (by simp))
      clear hown hbel hv1 hv2
      obtain ⟨l0, l1, l2⟩ := HP1.out
      obtain ⟨m0, m1, m2⟩ := HQ1.out
      go_wp2_with fail
      rcases C1.out with ⟨he, y, hr, hyl0⟩ | ⟨he, hr⟩
      · have hyl := Lib.hid hyl0
        clear hyl0
        subst he
        refine (decode_any _ _ _ fr _ 64 c1 w1.heap.size w1 (HT.out _ HB1.out).1 (HT.out _ HB1.out).2 HO1.out.byt hc1 hc2 (Nat.le_refl _) hs _ hr).mono ?_
        rintro e w2 ⟨A2, d2, rfl, hown, hbel⟩
        simp only [Option.getD_some, Option.isSome_some, hyl.out] at hown ⊢
        have HO2 := Lib.hid (HO1.out.keep hbel)
        have HB2 := Lib.hid (HB1.out.trans (hbel.mono HB1.out.size))
        have hw2 : w.heap.size + 1 < w2.heap.size := by have := hbel.size; omega
        have HP2 := Lib.hid (HP1.out.below hbel (by omega))
        have HQ2 := Lib.hid (HQ1.out.below hbel hw1)
        clear hown hbel hr l0 l1 l2 m0 m1 m2
        obtain ⟨l0, l1, l2⟩ := HP2.out
        obtain ⟨m0, m1, m2⟩ := HQ2.out
        go_wp2_with fail
        rcases C2.out with ⟨he, y, hr, hyl0⟩ | ⟨he, hr⟩
        · have hyl := Lib.hid hyl0
          clear hyl0
          subst he
          refine (decode_any _ _ _ fr _ 64 c1 w2.heap.size w2 (HT.out _ HB2.out).1 (HT.out _ HB2.out).2 HO2.out.byt hc1 hc2 (Nat.le_refl _) hs _ hr).mono ?_
          rintro e w3 ⟨A3, d3, rfl, hown, hbel⟩
          simp only [Option.getD_some, Option.isSome_some, hyl.out] at hown ⊢
          have HO3 := Lib.hid (HO2.out.keep hbel)
          have HB3 := Lib.hid (HB2.out.trans (hbel.mono HB2.out.size))
          have hw3 : w.heap.size + 1 < w3.heap.size := by have := hbel.size; omega
          have HP3 := Lib.hid (HP2.out.below hbel (by omega))
          have HQ3 := Lib.hid (HQ2.out.below hbel hw2)
          clear hown hbel hr l0 l1 l2 m0 m1 m2
          obtain ⟨l0, l1, l2⟩ := HP3.out
          obtain ⟨m0, m1, m2⟩ := HQ3.out
          have r1 := R1.out
          have r2 := R2.out
          have r3 := R3.out
          go_wp2_with fail
          clear r1 r2 r3
          rcases C3.out with ⟨he, y, hr, hyl0⟩ | ⟨he, hr⟩
          · have hyl := Lib.hid hyl0
            clear hyl0
            obtain rfl : v = s := by omega
            refine (decode_any _ _ _ fr _ 64 c1 w3.heap.size w3 (HT.out _ HB3.out).1 (HT.out _ HB3.out).2 HO3.out.byt hc1 hc2 (Nat.le_refl _) (by omega) _ hr).mono ?_
            rintro e w4 ⟨A4, d4, rfl, hown, hbel⟩
            simp only [Option.getD_some, Option.isSome_some, hyl.out] at hown ⊢
            have HO4 := Lib.hid (HO3.out.keep hbel)
            have HB4 := Lib.hid (HB3.out.trans (hbel.mono HB3.out.size))
            have hw4 : w.heap.size + 1 < w4.heap.size := by have := hbel.size; omega
            have HP4 := Lib.hid (HP3.out.below hbel (by omega))
            have HQ4 := Lib.hid (HQ3.out.below hbel hw3)
            clear hown hbel hr l0 l1 l2 m0 m1 m2
            go_wp2_with fail
            refine (frameAwake_any w4 (HT.out _ HB4.out).1 (HT.out _ HB4.out).2).mono ?_
            rintro e w5 ⟨rfl, hbel⟩
            have HB5 := Lib.hid (HB4.out.trans (hbel.mono HB4.out.size))
            obtain ⟨l0, l1, l2⟩ := HP4.out.below hbel (by omega)
            clear hbel
            go_wp2
            go_ret
            exact ⟨rfl, HB5.out⟩
          · have hne : ((v : Int) == s) = false := beq_eq_false_iff_ne.2 he
            refine (decode_any _ _ _ fr _ 64 c1 w3.heap.size w3 (HT.out _ HB3.out).1 (HT.out _ HB3.out).2 HO3.out.byt hc1 hc2 (Nat.le_refl _) (by omega) _ hr).mono ?_
            rintro e w4 ⟨A4, d4, rfl, hown, hbel⟩
            simp only [Option.getD_none, Option.isSome_none, List.length_nil] at hown ⊢
            have HO4 := Lib.hid (HO3.out.keep hbel)
            have HB4 := Lib.hid (HB3.out.trans (hbel.mono HB3.out.size))
            have hw4 : w.heap.size + 1 < w4.heap.size := by have := hbel.size; omega
            have HP4 := Lib.hid (HP3.out.below hbel (by omega))
            have HQ4 := Lib.hid (HQ3.out.below hbel hw3)
            clear hown hbel hr l0 l1 l2 m0 m1 m2
            go_wp2_with fail
            refine (frameAwake_any w4 (HT.out _ HB4.out).1 (HT.out _ HB4.out).2).mono ?_
            rintro e w5 ⟨rfl, hbel⟩
            have HB5 := Lib.hid (HB4.out.trans (hbel.mono HB4.out.size))
            obtain ⟨l0, l1, l2⟩ := HP4.out.below hbel (by omega)
            clear hbel
            go_wp2
            go_ret
            exact ⟨rfl, HB5.out⟩
        · have hne : ((k' : Int) == (x.toNat : Int)) = false := beq_eq_false_iff_ne.2 he
          refine (decode_any _ _ _ fr _ 64 c1 w2.heap.size w2 (HT.out _ HB2.out).1 (HT.out _ HB2.out).2 HO2.out.byt hc1 hc2 (Nat.le_refl _) hs _ hr).mono ?_
          rintro e w3 ⟨A3, d3, rfl, hown, hbel⟩
          simp only [Option.getD_none, Option.isSome_none, List.length_nil] at hown ⊢
          have HO3 := Lib.hid (HO2.out.keep hbel)
          have HB3 := Lib.hid (HB2.out.trans (hbel.mono HB2.out.size))
          have hw3 : w.heap.size + 1 < w3.heap.size := by have := hbel.size; omega
          have HP3 := Lib.hid (HP2.out.below hbel (by omega))
          have HQ3 := Lib.hid (HQ2.out.below hbel hw2)
          clear hown hbel hr l0 l1 l2 m0 m1 m2
          obtain ⟨l0, l1, l2⟩ := HP3.out
          obtain ⟨m0, m1, m2⟩ := HQ3.out
          have r1 := R1.out
          have r2 := R2.out
          have r3 := R3.out
          go_wp2_with fail
          clear r1 r2 r3
          rcases C3.out with ⟨he, y, hr, hyl0⟩ | ⟨he, hr⟩
          · have hyl := Lib.hid hyl0
            clear hyl0
            obtain rfl : v = s := by omega
            refine (decode_any _ _ _ fr _ 64 c1 w3.heap.size w3 (HT.out _ HB3.out).1 (HT.out _ HB3.out).2 HO3.out.byt hc1 hc2 (Nat.le_refl _) (by omega) _ hr).mono ?_
            rintro e w4 ⟨A4, d4, rfl, hown, hbel⟩
            simp only [Option.getD_some, Option.isSome_some, hyl.out] at hown ⊢
            have HO4 := Lib.hid (HO3.out.keep hbel)
            have HB4 := Lib.hid (HB3.out.trans (hbel.mono HB3.out.size))
            have hw4 : w.heap.size + 1 < w4.heap.size := by have := hbel.size; omega
            have HP4 := Lib.hid (HP3.out.below hbel (by omega))
            have HQ4 := Lib.hid (HQ3.out.below hbel hw3)
            clear hown hbel hr l0 l1 l2 m0 m1 m2
            go_wp2_with fail
            refine (frameAwake_any w4 (HT.out _ HB4.out).1 (HT.out _ HB4.out).2).mono ?_
            rintro e w5 ⟨rfl, hbel⟩
            have HB5 := Lib.hid (HB4.out.trans (hbel.mono HB4.out.size))
            obtain ⟨l0, l1, l2⟩ := HP4.out.below hbel (by omega)
            clear hbel
            go_wp2
            go_ret
            exact ⟨rfl, HB5.out⟩
          · have hne : ((v : Int) == s) = false := beq_eq_false_iff_ne.2 he
            refine (decode_any _ _ _ fr _ 64 c1 w3.heap.size w3 (HT.out _ HB3.out).1 (HT.out _ HB3.out).2 HO3.out.byt hc1 hc2 (Nat.le_refl _) (by omega) _ hr).mono ?_
            rintro e w4 ⟨A4, d4, rfl, hown, hbel⟩
            simp only [Option.getD_none, Option.isSome_none, List.length_nil] at hown ⊢
            have HO4 := Lib.hid (HO3.out.keep hbel)
            have HB4 := Lib.hid (HB3.out.trans (hbel.mono HB3.out.size))
            have hw4 : w.heap.size + 1 < w4.heap.size := by have := hbel.size; omega
            have HP4 := Lib.hid (HP3.out.below hbel (by omega))
            have HQ4 := Lib.hid (HQ3.out.below hbel hw3)
            clear hown hbel hr l0 l1 l2 m0 m1 m2
            go_wp2_with fail
            refine (frameAwake_any w4 (HT.out _ HB4.out).1 (HT.out _ HB4.out).2).mono ?_
            rintro e w5 ⟨rfl, hbel⟩
            have HB5 := Lib.hid (HB4.out.trans (hbel.mono HB4.out.size))
            obtain ⟨l0, l1, l2⟩ := HP4.out.below hbel (by omega)
            clear hbel
            go_wp2
            go_ret
            exact ⟨rfl, HB5.out⟩
      · have hne : ((t' : Int) == (t : Int)) = false := beq_eq_false_iff_ne.2 he
        refine (decode_any _ _ _ fr _ 64 c1 w1.heap.size w1 (HT.out _ HB1.out).1 (HT.out _ HB1.out).2 HO1.out.byt hc1 hc2 (Nat.le_refl _) hs _ hr).mono ?_
        rintro e w2 ⟨A2, d2, rfl, hown, hbel⟩
        simp only [Option.getD_none, Option.isSome_none, List.length_nil] at hown ⊢
        have HO2 := Lib.hid (HO1.out.keep hbel)
        have HB2 := Lib.hid (HB1.out.trans (hbel.mono HB1.out.size))
        have hw2 : w.heap.size + 1 < w2.heap.size := by have := hbel.size; omega
        have HP2 := Lib.hid (HP1.out.below hbel (by omega))
        have HQ2 := Lib.hid (HQ1.out.below hbel hw1)
        clear hown hbel hr l0 l1 l2 m0 m1 m2
        obtain ⟨l0, l1, l2⟩ := HP2.out
        obtain ⟨m0, m1, m2⟩ := HQ2.out
        go_wp2_with fail
        rcases C2.out with ⟨he, y, hr, hyl0⟩ | ⟨he, hr⟩
        · have hyl := Lib.hid hyl0
          clear hyl0
          subst he
          refine (decode_any _ _ _ fr _ 64 c1 w2.heap.size w2 (HT.out _ HB2.out).1 (HT.out _ HB2.out).2 HO2.out.byt hc1 hc2 (Nat.le_refl _) hs _ hr).mono ?_
          rintro e w3 ⟨A3, d3, rfl, hown, hbel⟩
          simp only [Option.getD_some, Option.isSome_some, hyl.out] at hown ⊢
          have HO3 := Lib.hid (HO2.out.keep hbel)
          have HB3 := Lib.hid (HB2.out.trans (hbel.mono HB2.out.size))
          have hw3 : w.heap.size + 1 < w3.heap.size := by have := hbel.size; omega
          have HP3 := Lib.hid (HP2.out.below hbel (by omega))
          have HQ3 := Lib.hid (HQ2.out.below hbel hw2)
          clear hown hbel hr l0 l1 l2 m0 m1 m2
          obtain ⟨l0, l1, l2⟩ := HP3.out
          obtain ⟨m0, m1, m2⟩ := HQ3.out
          have r1 := R1.out
          have r2 := R2.out
          have r3 := R3.out
          go_wp2_with fail
          clear r1 r2 r3
          rcases C3.out with ⟨he, y, hr, hyl0⟩ | ⟨he, hr⟩
          · have hyl := Lib.hid hyl0
            clear hyl0
            obtain rfl : v = s := by omega
            refine (decode_any _ _ _ fr _ 64 c1 w3.heap.size w3 (HT.out _ HB3.out).1 (HT.out _ HB3.out).2 HO3.out.byt hc1 hc2 (Nat.le_refl _) (by omega) _ hr).mono ?_
            rintro e w4 ⟨A4, d4, rfl, hown, hbel⟩
            simp only [Option.getD_some, Option.isSome_some, hyl.out] at hown ⊢
            have HO4 := Lib.hid (HO3.out.keep hbel)
            have HB4 := Lib.hid (HB3.out.trans (hbel.mono HB3.out.size))
            have hw4 : w.heap.size + 1 < w4.heap.size := by have := hbel.size; omega
            have HP4 := Lib.hid (HP3.out.below hbel (by omega))
            have HQ4 := Lib.hid (HQ3.out.below hbel hw3)
            clear hown hbel hr l0 l1 l2 m0 m1 m2
            go_wp2_with fail
            refine (frameAwake_any w4 (HT.out _ HB4.out).1 (HT.out _ HB4.out).2).mono ?_
            rintro e w5 ⟨rfl, hbel⟩
            have HB5 := Lib.hid (HB4.out.trans (hbel.mono HB4.out.size))
            obtain ⟨l0, l1, l2⟩ := HP4.out.below hbel (by omega)
            clear hbel
            go_wp2
            go_ret
            exact ⟨rfl, HB5.out⟩
          · have hne : ((v : Int) == s) = false := beq_eq_false_iff_ne.2 he
            refine (decode_any _ _ _ fr _ 64 c1 w3.heap.size w3 (HT.out _ HB3.out).1 (HT.out _ HB3.out).2 HO3.out.byt hc1 hc2 (Nat.le_refl _) (by omega) _ hr).mono ?_
            rintro e w4 ⟨A4, d4, rfl, hown, hbel⟩
            simp only [Option.getD_none, Option.isSome_none, List.length_nil] at hown ⊢
            have HO4 := Lib.hid (HO3.out.keep hbel)
            have HB4 := Lib.hid (HB3.out.trans (hbel.mono HB3.out.size))
            have hw4 : w.heap.size + 1 < w4.heap.size := by have := hbel.size; omega
            have HP4 := Lib.hid (HP3.out.below hbel (by omega))
            have HQ4 := Lib.hid (HQ3.out.below hbel hw3)
            clear hown hbel hr l0 l1 l2 m0 m1 m2
            go_wp2_with fail
            refine (frameAwake_any w4 (HT.out _ HB4.out).1 (HT.out _ HB4.out).2).mono ?_
            rintro e w5 ⟨rfl, hbel⟩
            have HB5 := Lib.hid (HB4.out.trans (hbel.mono HB4.out.size))
            obtain ⟨l0, l1, l2⟩ := HP4.out.below hbel (by omega)
            clear hbel
            go_wp2
            go_ret
            exact ⟨rfl, HB5.out⟩
        · have hne : ((k' : Int) == (x.toNat : Int)) = false := beq_eq_false_iff_ne.2 he
          refine (decode_any _ _ _ fr _ 64 c1 w2.heap.size w2 (HT.out _ HB2.out).1 (HT.out _ HB2.out).2 HO2.out.byt hc1 hc2 (Nat.le_refl _) hs _ hr).mono ?_
          rintro e w3 ⟨A3, d3, rfl, hown, hbel⟩
          simp only [Option.getD_none, Option.isSome_none, List.length_nil] at hown ⊢
          have HO3 := Lib.hid (HO2.out.keep hbel)
          have HB3 := Lib.hid (HB2.out.trans (hbel.mono HB2.out.size))
          have hw3 : w.heap.size + 1 < w3.heap.size := by have := hbel.size; omega
          have HP3 := Lib.hid (HP2.out.below hbel (by omega))
          have HQ3 := Lib.hid (HQ2.out.below hbel hw2)
          clear hown hbel hr l0 l1 l2 m0 m1 m2
          obtain ⟨l0, l1, l2⟩ := HP3.out
          obtain ⟨m0, m1, m2⟩ := HQ3.out
          have r1 := R1.out
          have r2 := R2.out
          have r3 := R3.out
          go_wp2_with fail
          clear r1 r2 r3
          rcases C3.out with ⟨he, y, hr, hyl0⟩ | ⟨he, hr⟩
          · have hyl := Lib.hid hyl0
            clear hyl0
            obtain rfl : v = s := by omega
            refine (decode_any _ _ _ fr _ 64 c1 w3.heap.size w3 (HT.out _ HB3.out).1 (HT.out _ HB3.out).2 HO3.out.byt hc1 hc2 (Nat.le_refl _) (by omega) _ hr).mono ?_
            rintro e w4 ⟨A4, d4, rfl, hown, hbel⟩
            simp only [Option.getD_some, Option.isSome_some, hyl.out] at hown ⊢
            have HO4 := Lib.hid (HO3.out.keep hbel)
            have HB4 := Lib.hid (HB3.out.trans (hbel.mono HB3.out.size))
            have hw4 : w.heap.size + 1 < w4.heap.size := by have := hbel.size; omega
            have HP4 := Lib.hid (HP3.out.below hbel (by omega))
            have HQ4 := Lib.hid (HQ3.out.below hbel hw3)
            clear hown hbel hr l0 l1 l2 m0 m1 m2
            go_wp2_with fail
            refine (frameAwake_any w4 (HT.out _ HB4.out).1 (HT.out _ HB4.out).2).mono ?_
            rintro e w5 ⟨rfl, hbel⟩
            have HB5 := Lib.hid (HB4.out.trans (hbel.mono HB4.out.size))
            obtain ⟨l0, l1, l2⟩ := HP4.out.below hbel (by omega)
            clear hbel
            go_wp2
            go_ret
            exact ⟨rfl, HB5.out⟩
          · have hne : ((v : Int) == s) = false := beq_eq_false_iff_ne.2 he
            refine (decode_any _ _ _ fr _ 64 c1 w3.heap.size w3 (HT.out _ HB3.out).1 (HT.out _ HB3.out).2 HO3.out.byt hc1 hc2 (Nat.le_refl _) (by omega) _ hr).mono ?_
            rintro e w4 ⟨A4, d4, rfl, hown, hbel⟩
            simp only [Option.getD_none, Option.isSome_none, List.length_nil] at hown ⊢
            have HO4 := Lib.hid (HO3.out.keep hbel)
            have HB4 := Lib.hid (HB3.out.trans (hbel.mono HB3.out.size))
            have hw4 : w.heap.size + 1 < w4.heap.size := by have := hbel.size; omega
            have HP4 := Lib.hid (HP3.out.below hbel (by omega))
            have HQ4 := Lib.hid (HQ3.out.below hbel hw3)
            clear hown hbel hr l0 l1 l2 m0 m1 m2
            go_wp2_with fail
            refine (frameAwake_any w4 (HT.out _ HB4.out).1 (HT.out _ HB4.out).2).mono ?_
            rintro e w5 ⟨rfl, hbel⟩
            have HB5 := Lib.hid (HB4.out.trans (hbel.mono HB4.out.size))
            obtain ⟨l0, l1, l2⟩ := HP4.out.below hbel (by omega)
            clear hbel
            go_wp2
            go_ret
            exact ⟨rfl, HB5.out⟩
end Go.Proofs.YtepbchaeeldjmaaDoor
