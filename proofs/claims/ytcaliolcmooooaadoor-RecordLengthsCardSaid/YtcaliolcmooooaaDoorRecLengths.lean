/- The walk of the law RecordLengths. -/
import Derived.Test.YtcaliolcmooooaaDoorRecAwake
namespace Go.Proofs.YtcaliolcmooooaaDoor
open Go.RowKit

theorem rcheck_12 (ki ex : Int) (nk nv : Nat) : rcheck 1 ki ex nk nv = 7 ∨ rcheck 2 ki ex nk nv = rcheck 1 ki ex nk nv := by
  unfold rcheck
  rw [if_neg (show ¬ (¬ (1 : Int) = 1 ∧ ¬ (1 : Int) = 2) by omega), if_neg (show ¬ (¬ (2 : Int) = 1 ∧ ¬ (2 : Int) = 2) by omega)]
  by_cases h1 : ki < 1 ∨ 3 < ki ∨ (¬ ki = 1 ∧ (0 < nv ∨ ¬ ex = 0)) ∨ (ki = 3 ∧ 0 < nk)
  · rw [if_pos h1, if_pos h1]; exact .inr rfl
  rw [if_neg h1, if_neg h1]
  by_cases h2 : ¬ ki = 3 ∧ (nk = 0 ∨ 255 < nk)
  · rw [if_pos h2, if_pos h2]; exact .inr rfl
  rw [if_neg h2, if_neg h2]
  by_cases h3 : 65536 < nv
  · rw [if_pos h3, if_pos h3]; exact .inr rfl
  rw [if_neg h3, if_neg h3]
  by_cases h4 : ex < 0 ∨ ((1 : Int) = 1 ∧ 4294967295 < ex) ∨ (¬ (1 : Int) = 1 ∧ 1099511627775 < ex)
  · rw [if_pos h4]; exact .inl rfl
  · rw [if_neg h4, if_neg (by omega)]; exact .inr rfl

theorem lengths_law (s o ki ex : Int) (key val : List UInt8) (ra rb : List UInt8) (x y : Int) (ha : rencS 1 s o ki ex key val = (ra, x)) (hb : rencS 2 s o ki ex key val = (rb, y)) :
    (¬ x = 0 ∧ (y = x ∨ x = 7)) ∨ (x = 0 ∧ y = 0 ∧ ra.length = 16 + key.length + val.length ∧ rb.length = 16 + key.length + val.length) := by
  have h12 := rcheck_12 ki ex key.length val.length
  unfold rencS at ha hb
  by_cases c1 : rcheck 1 ki ex key.length val.length = 0
  · have c2 : rcheck 2 ki ex key.length val.length = 0 := by
      rcases h12 with h | h
      · rw [c1] at h; cases h
      · rw [h, c1]
    rw [if_neg (by rw [c1]; decide)] at ha
    rw [if_neg (by rw [c2]; decide)] at hb
    by_cases hr : s < 0 ∨ o < 0 ∨ 2147483647 < o
    · rw [if_pos hr] at ha hb
      injection ha with _ ha
      injection hb with _ hb
      subst ha hb
      exact .inl ⟨by decide, .inl rfl⟩
    · rw [if_neg hr] at ha hb
      injection ha with ha1 ha
      injection hb with hb1 hb
      subst ha hb ha1 hb1
      exact .inr ⟨rfl, rfl, rbytes_len _ _ _ _ _ _ _, rbytes_len _ _ _ _ _ _ _⟩
  · rw [if_pos c1] at ha
    injection ha with _ ha
    subst ha
    left
    refine ⟨c1, ?_⟩
    rcases h12 with h | h
    · exact .inr h
    · left
      rw [if_pos (by rw [h]; exact c1)] at hb
      injection hb with _ hb
      rw [← hb, h]

set_option maxRecDepth 100000 in
set_option maxHeartbeats 4000000 in
theorem recordLengths_any (s o ki ex : Int) (key val : List UInt8) (Ak Av : Option Addr) (nk ck nv cv : Nat) (w : World) (ht : TabAt w) (h0 : 0 < w.heap.size) (hkb : Byt w w.heap.size Ak nk key) (hvb : Byt w w.heap.size Av nv val) (hk : nk ≤ ck) (hv : nv ≤ cv) (hck : ck ≤ 9223372036854775807) (hcv : cv ≤ 9223372036854775807) (hs : s ≤ 9223372036854775807) :
    Calls Tryd.prog 6 #[.int .i64 s, .int .i64 o, .agg #[.int .i64 ki, .slice Ak nk ck, .slice Av nv cv, .int .i64 ex]] w fun e w' => e = .returned (.bool true) ∧ Below w.heap.size w w' := by
  have HT : Hid (∀ w', Below w.heap.size w w' → TabAt w' ∧ 0 < w'.heap.size) := fun w' hw => ⟨ht.below hw h0, Nat.lt_of_lt_of_le h0 hw.size⟩
  obtain ⟨mk, hmk⟩ : ∃ mk, (nk ≤ 260 ∧ mk = nk) ∨ (260 < nk ∧ mk = 260) := by
    by_cases h : nk ≤ 260
    · exact ⟨nk, .inl ⟨h, rfl⟩⟩
    · exact ⟨260, .inr ⟨by omega, rfl⟩⟩
  obtain ⟨mv, hmv⟩ : ∃ mv, (nv ≤ 200 ∧ mv = nv) ∨ (200 < nv ∧ mv = 200) := by
    by_cases h : nv ≤ 200
    · exact ⟨nv, .inl ⟨h, rfl⟩⟩
    · exact ⟨200, .inr ⟨by omega, rfl⟩⟩
  have HK : Hid (∀ w', Below w.heap.size w w' → Byt w' w.heap.size Ak mk (key.take mk)) := fun w' hw => (hkb.take (by omega)).below hw
  have HV : Hid (∀ w', Below w.heap.size w w' → Byt w' w.heap.size Av mv (val.take mv)) := fun w' hw => (hvb.take (by omega)).below hw
  have hkl := (HK.out w (Below.refl _ _)).len
  have hvl := (HV.out w (Below.refl _ _)).len
  obtain ⟨k', hk'⟩ : ∃ k', key.take mk = k' := ⟨_, rfl⟩
  obtain ⟨v', hv'⟩ : ∃ v', val.take mv = v' := ⟨_, rfl⟩
  rw [hk'] at HK hkl
  rw [hv'] at HV hvl
  have SH := Lib.hid (short_any ki ex Ak Av nk ck nv cv mk mv hk hv hck hcv hmk hmv)
  obtain ⟨⟨ra, x⟩, ha⟩ : ∃ r, rencS 1 s o ki ex k' v' = r := ⟨_, rfl⟩
  obtain ⟨⟨rb, y⟩, hb⟩ : ∃ r, rencS 2 s o ki ex k' v' = r := ⟨_, rfl⟩
  have HC := Lib.hid (lengths_law s o ki ex k' v' ra rb x y ha hb)
  rw [hkl, hvl] at HC
  have HA := Lib.hid ha
  have HB := Lib.hid hb
  have hmk1 : mk ≤ 100000 := by omega
  have hmv1 : mv ≤ 100000 := by omega
  have HB0 : Hid (Below w.heap.size w (w.alloc (.cells #[.int .i64 ki, .slice Ak nk ck, .slice Av nv cv, .int .i64 ex] 26))) := (Below.refl _ _).alloc (Nat.le_refl _) _
  have HX0 := Lib.hid (BoxR.new w 26 ki ex Ak Av nk ck nv cv)
  have HF0 : Hid (∀ j, (w.alloc (.cells #[.int .i64 ki, .slice Ak nk ck, .slice Av nv cv, .int .i64 ex] 26)).frozen? ⟨w.heap.size, j, none⟩ = false) := fun j => frozen_of_row _ _ j _ _ (heap_alloc_new w _)
  clear ha hb hk' hv' hkl hvl hkb hvb ht h0 hmk hmv hk hv hck hcv
  go_enter Tryd.func6, Tryd.ntmps6
  go_wp2_with fail
  refine (SH.out _).mono ?_
  rintro e w1 ⟨rfl, hbel⟩
  have HB1 : Hid (Below w.heap.size w w1) := HB0.out.trans (hbel.mono HB0.out.size)
  have HX1 : Hid (BoxR w1 w.heap.size ki Ak nk ck Av nv cv ex) := HX0.out.below (B := w.heap.size + 1) (hbel.mono (by simp)) (by omega)
  have hw1 : w.heap.size < w1.heap.size := by have := hbel.size; simp at this; omega
  have hfz : ∀ j, w1.frozen? ⟨w.heap.size, j, none⟩ = false := fun j => (hbel.frozen (p := ⟨w.heap.size, j, none⟩) (by simp)).trans (HF0.out j)
  have f0 := hfz 0
  have f1 := hfz 1
  have f2 := hfz 2
  have f3 := hfz 3
  obtain ⟨l0, l1, l2, l3⟩ := HX1.out
  clear hbel hfz
  go_wp2_with fail
  have HS1 := Lib.hid (box_set (ki := ki) (ex := ex) (Ak := Ak) (Av := Av) (nk := mk) (ck := ck) (nv := mv) (cv := cv) HX1.out _ rfl)
  have HB2 := Lib.hid (HB1.out.trans (HS1.out.2.2 _ (Nat.le_refl _)))
  refine (recEncode_any 1 s o ki ex k' v' Ak Av mk ck mv cv w.heap.size _ (HT.out _ HB2.out).1 (HT.out _ HB2.out).2 (HK.out _ HB2.out) (HV.out _ HB2.out) HB2.out.size hmk1 hmv1 hs _ HA.out).mono ?_
  rintro e w3 ⟨A3, c3, rfl, hown, hbel⟩
  have HX3 := Lib.hid (HS1.out.1.below hbel (by rw [HS1.out.2.1]; omega))
  have HB3 := Lib.hid (HB2.out.trans (hbel.mono HB2.out.size))
  clear hown hbel l0 l1 l2 l3 f0 f1 f2 f3
  obtain ⟨l0, l1, l2, l3⟩ := HX3.out
  go_wp2_with fail
  refine (recEncode_any 2 s o ki ex k' v' Ak Av mk ck mv cv w.heap.size w3 (HT.out _ HB3.out).1 (HT.out _ HB3.out).2 (HK.out _ HB3.out) (HV.out _ HB3.out) HB3.out.size hmk1 hmv1 hs _ HB.out).mono ?_
  rintro e w4 ⟨A4, c4, rfl, hown, hbel⟩
  have HB4 := Lib.hid (HB3.out.trans (hbel.mono HB3.out.size))
  have AW := Lib.hid (recAwake_any w4 (HT.out _ HB4.out).1 (HT.out _ HB4.out).2)
  simp only
  clear hown hbel l0 l1 l2 l3
  rcases HC.out with ⟨h1, rfl | rfl⟩ | ⟨rfl, rfl, h1, h2⟩
  · clear HC
    go_wp2_with fail
    refine AW.out.mono ?_
    rintro e w5 ⟨rfl, hbel⟩
    have HB5 := Lib.hid (HB4.out.trans (hbel.mono HB4.out.size))
    clear hbel
    go_wp2
    go_ret
    exact ⟨by first | rfl | simp, HB5.out⟩
  · clear HC
    by_cases hy : y = 7
    all_goals
      go_wp2_with fail
      refine AW.out.mono ?_
      rintro e w5 ⟨rfl, hbel⟩
      have HB5 := Lib.hid (HB4.out.trans (hbel.mono HB4.out.size))
      clear hbel
      go_wp2
      go_ret
      exact ⟨by first | rfl | simp, HB5.out⟩
  · rw [h1, h2]
    clear HC h1 h2
    go_wp2_with fail
    refine AW.out.mono ?_
    rintro e w5 ⟨rfl, hbel⟩
    have HB5 := Lib.hid (HB4.out.trans (hbel.mono HB4.out.size))
    clear hbel
    go_wp2
    go_ret
    exact ⟨by first | rfl | exact congrArg (fun b => Ending.returned (.bool b)) (decide_eq_true (by omega)) | simp, HB5.out⟩
end Go.Proofs.YtcaliolcmooooaaDoor
