/- The walk of the law RecordEncode. -/
import Derived.Test.YtcaliolcmooooaaDoorRecCut
import Derived.Test.YtcaliolcmooooaaDoorRefREnc
import Derived.Test.YtcaliolcmooooaaDoorRecCheckRef
namespace Go.Proofs.YtcaliolcmooooaaDoor
open Go.RowKit

theorem encode_law (v s o ki ex : Int) (key val : List UInt8) (ra : List UInt8) (x : Int) (rc : Int) (hr : rencS v s o ki ex key val = (ra, x)) (hc : rcheck v ki ex key.length val.length = rc) :
    (¬ rc = 0 ∧ x = rc ∧ ra = []) ∨ (rc = 0 ∧ (s < 0 ∨ o < 0 ∨ 2147483647 < o) ∧ x = 2 ∧ ra = []) ∨ (rc = 0 ∧ 0 ≤ s ∧ 0 ≤ o ∧ o ≤ 2147483647 ∧ x = 0 ∧ rbytes v s.toNat o.toNat ki.toNat ex.toNat key val = ra) := by
  unfold rencS at hr
  rw [hc] at hr
  by_cases h : rc = 0
  · rw [if_neg (Decidable.not_not.2 h)] at hr
    by_cases hp : s < 0 ∨ o < 0 ∨ 2147483647 < o
    · rw [if_pos hp] at hr
      injection hr with h1 h2
      exact .inr (.inl ⟨h, hp, h2.symm, h1.symm⟩)
    · rw [if_neg hp] at hr
      injection hr with h1 h2
      exact .inr (.inr ⟨h, by omega, by omega, by omega, h2.symm, h1⟩)
  · rw [if_pos h] at hr
    injection hr with h1 h2
    exact .inl ⟨h, h2.symm, h1.symm⟩

set_option maxRecDepth 100000 in
set_option maxHeartbeats 4000000 in
theorem recordEncode_any (v s o ki ex : Int) (key val : List UInt8) (Ak Av : Option Addr) (nk ck nv cv : Nat) (w : World) (ht : TabAt w) (h0 : 0 < w.heap.size) (hkb : Byt w w.heap.size Ak nk key) (hvb : Byt w w.heap.size Av nv val) (hk : nk ≤ ck) (hv : nv ≤ cv) (hck : ck ≤ 9223372036854775807) (hcv : cv ≤ 9223372036854775807) (hs : s ≤ 9223372036854775807) :
    Calls Tryd.prog 3 #[.agg #[.int .i64 v, .int .i64 s, .int .i64 o], .agg #[.int .i64 ki, .slice Ak nk ck, .slice Av nv cv, .int .i64 ex]] w fun e w' => e = .returned (.bool true) ∧ Below w.heap.size w w' := by
  have HT : Hid (∀ w', Below w.heap.size w w' → TabAt w' ∧ 0 < w'.heap.size) := fun w' hw => ⟨ht.below hw h0, Nat.lt_of_lt_of_le h0 hw.size⟩
  obtain ⟨mk, hmk⟩ : ∃ mk, (nk ≤ 260 ∧ mk = nk) ∨ (260 < nk ∧ mk = 260) := by
    by_cases h : nk ≤ 260
    · exact ⟨nk, .inl ⟨h, rfl⟩⟩
    · exact ⟨260, .inr ⟨by omega, rfl⟩⟩
  obtain ⟨mv, hmv⟩ : ∃ mv, (nv ≤ 200 ∧ mv = nv) ∨ (200 < nv ∧ mv = 200) := by
    by_cases h : nv ≤ 200
    · exact ⟨nv, .inl ⟨h, rfl⟩⟩
    · exact ⟨200, .inr ⟨by omega, rfl⟩⟩
  have HK : Hid (∀ w', Below w.heap.size w w' → Byt w' w.heap.size Ak mk (key.take mk)) := fun w' hw => (hkb.take (by omega)).below hw
  have HV : Hid (∀ w', Below w.heap.size w w' → Byt w' w.heap.size Av mv (val.take mv)) := fun w' hw => (hvb.take (by omega)).below hw
  have hkl := (HK.out w (Below.refl _ _)).len
  have hvl := (HV.out w (Below.refl _ _)).len
  obtain ⟨k', hk'⟩ : ∃ k', key.take mk = k' := ⟨_, rfl⟩
  obtain ⟨v', hv'⟩ : ∃ v', val.take mv = v' := ⟨_, rfl⟩
  rw [hk'] at HK hkl
  rw [hv'] at HV hvl
  have SH := Lib.hid (short_any ki ex Ak Av nk ck nv cv mk mv hk hv hck hcv hmk hmv)
  have hmk1 : mk ≤ 260 := by omega
  have hmv1 : mv ≤ 200 := by omega
  obtain ⟨⟨ra, x⟩, ha⟩ : ∃ r, rencS v s o ki ex k' v' = r := ⟨_, rfl⟩
  obtain ⟨rc, hrc⟩ : ∃ r, rcheck v ki ex mk mv = r := ⟨_, rfl⟩
  have hC := encode_law v s o ki ex k' v' ra x rc ha (by rw [hkl, hvl]; exact hrc)
  have HA := Lib.hid ha
  have HC := Lib.hid hC
  have HRC := Lib.hid hrc
  have CK := Lib.hid (refRcheck_any v ki ex Ak Av mk ck mv cv (by omega) (by omega) rc hrc)
  have HKL := Lib.hid (show k'.length = mk ∧ v'.length = mv from ⟨hkl, hvl⟩)
  have HB0 : Hid (Below w.heap.size w ((w.alloc (.cells #[.int .i64 v, .int .i64 s, .int .i64 o] 23)).alloc (.cells #[.int .i64 ki, .slice Ak nk ck, .slice Av nv cv, .int .i64 ex] 26))) := Below.alloc (Below.alloc (Below.refl _ _) (Nat.le_refl _) _) (by simp) _
  have HP0 : Hid (BoxP ((w.alloc (.cells #[.int .i64 v, .int .i64 s, .int .i64 o] 23)).alloc (.cells #[.int .i64 ki, .slice Ak nk ck, .slice Av nv cv, .int .i64 ex] 26)) w.heap.size v s o) := (BoxP.new w 23 v s o).below (B := w.heap.size + 1) (Below.alloc (Below.refl _ _) (by simp) _) (by omega)
  have HX0 : Hid (BoxR ((w.alloc (.cells #[.int .i64 v, .int .i64 s, .int .i64 o] 23)).alloc (.cells #[.int .i64 ki, .slice Ak nk ck, .slice Av nv cv, .int .i64 ex] 26)) (w.heap.size + 1) ki Ak nk ck Av nv cv ex) := by
    have h := BoxR.new (w.alloc (.cells #[.int .i64 v, .int .i64 s, .int .i64 o] 23)) 26 ki ex Ak Av nk ck nv cv
    rwa [World.size_alloc] at h
  have HF0 : Hid (∀ j, ((w.alloc (.cells #[.int .i64 v, .int .i64 s, .int .i64 o] 23)).alloc (.cells #[.int .i64 ki, .slice Ak nk ck, .slice Av nv cv, .int .i64 ex] 26)).frozen? ⟨w.heap.size + 1, j, none⟩ = false) := fun j => by
    have h := frozen_of_row _ _ j _ _ (heap_alloc_new (w.alloc (.cells #[.int .i64 v, .int .i64 s, .int .i64 o] 23)) (.cells #[.int .i64 ki, .slice Ak nk ck, .slice Av nv cv, .int .i64 ex] 26))
    rwa [World.size_alloc] at h
  clear ha hC hk' hv' hkl hvl hkb hvb ht h0 hmk hmv hk hv hck hcv hrc
  have AW := Lib.hid (fun (u : World) (hu : Below w.heap.size w u) => recAwake_any u (HT.out _ hu).1 (HT.out _ hu).2)
  go_enter Tryd.func3, Tryd.ntmps3
  go_wp2_with fail
  refine (SH.out _).mono ?_
  rintro e w1 ⟨rfl, hbel⟩
  have HB1 : Hid (Below w.heap.size w w1) := HB0.out.trans (hbel.mono HB0.out.size)
  have HX1 : Hid (BoxR w1 (w.heap.size + 1) ki Ak nk ck Av nv cv ex) := HX0.out.below (B := w.heap.size + 1 + 1) (hbel.mono (by simp)) (by omega)
  have HP1 : Hid (BoxP w1 w.heap.size v s o) := HP0.out.below (B := w.heap.size + 1 + 1) (hbel.mono (by simp)) (by omega)
  have hw1 : w.heap.size + 1 < w1.heap.size := by have := hbel.size; simp at this; omega
  have hfz : ∀ j, w1.frozen? ⟨w.heap.size + 1, j, none⟩ = false := fun j => (hbel.frozen (p := ⟨w.heap.size + 1, j, none⟩) (by simp)).trans (HF0.out j)
  have f0 := hfz 0
  have f1 := hfz 1
  have f2 := hfz 2
  have f3 := hfz 3
  obtain ⟨l0, l1, l2, l3⟩ := HX1.out
  obtain ⟨p0, p1, p2⟩ := HP1.out
  clear hbel hfz
  go_wp2_with fail
  have HS1 := Lib.hid (box_set (ki := ki) (ex := ex) (Ak := Ak) (Av := Av) (nk := mk) (ck := ck) (nv := mv) (cv := cv) HX1.out _ rfl)
  have HB2 := Lib.hid (HB1.out.trans (HS1.out.2.2 _ (by omega)))
  have HP2 := Lib.hid (HP1.out.below (HS1.out.2.2 (w.heap.size + 1) (Nat.le_refl _)) (by omega))
  refine (recEncode_any v s o ki ex k' v' Ak Av mk ck mv cv w.heap.size _ (HT.out _ HB2.out).1 (HT.out _ HB2.out).2 (HK.out _ HB2.out) (HV.out _ HB2.out) HB2.out.size (by omega) (by omega) hs _ HA.out).mono ?_
  rintro e w3 ⟨A3, c3, rfl, hown, hbel⟩
  have hsz : w1.heap.size ≤ w3.heap.size := by have := hbel.size; rw [HS1.out.2.1] at this; exact this
  have HP3 := Lib.hid (HP2.out.below hbel (by rw [HS1.out.2.1]; omega))
  have HX3 := Lib.hid (HS1.out.1.below hbel (by rw [HS1.out.2.1]; omega))
  have HB3 := Lib.hid (HB2.out.trans (hbel.mono HB2.out.size))
  have hw3 : w.heap.size + 1 < w3.heap.size := Nat.lt_of_lt_of_le hw1 hsz
  simp only at hown ⊢
  have HO3 := Lib.hid hown
  clear hown hbel l0 l1 l2 l3 f0 f1 f2 f3 p0 p1 p2 HX1 HS1 HP1 HP2 HX0 HP0 HF0
  obtain ⟨p0, p1, p2⟩ := HP3.out
  obtain ⟨x0, x1, x2, x3⟩ := HX3.out
  go_wp2_with fail
  refine (CK.out _).mono ?_
  rintro e w4 ⟨rfl, hbel⟩
  have hsz4 := hbel.size
  have HB4 := Lib.hid (HB3.out.trans (hbel.mono HB3.out.size))
  have HP4 := Lib.hid (HP3.out.below hbel (by omega))
  have HX4 := Lib.hid (HX3.out.below hbel (by omega))
  have HO4 := Lib.hid (HO3.out.keep hbel)
  clear hbel p0 p1 p2 x0 x1 x2 x3
  have hw4 : w.heap.size + 1 < w4.heap.size := Nat.lt_of_lt_of_le hw3 hsz4
  obtain ⟨p0, p1, p2⟩ := HP4.out
  rcases HC.out with ⟨h1, rfl, rfl⟩ | ⟨rfl, h1, rfl, rfl⟩ | ⟨rfl, hs0, ho0, ho1, rfl, h2⟩
  · have hrr := rcheck_range v ki ex mk mv
    rw [HRC.out] at hrr
    have hrr : x = 2 ∨ x = 4 ∨ x = 5 ∨ x = 6 ∨ x = 7 := by omega
    clear HC
    rcases hrr with rfl | rfl | rfl | rfl | rfl
    all_goals
      go_wp2_with fail
      refine (AW.out _ HB4.out).mono ?_
      rintro e w5 ⟨rfl, hbel⟩
      have HB5 := Lib.hid (HB4.out.trans (hbel.mono HB4.out.size))
      clear hbel
      go_wp2
      go_ret
      exact ⟨rfl, HB5.out⟩
  · clear HC
    rcases Int.lt_or_le s 0 with q | q
    · go_wp2_with fail
      refine (AW.out _ HB4.out).mono ?_
      rintro e w5 ⟨rfl, hbel⟩
      have HB5 := Lib.hid (HB4.out.trans (hbel.mono HB4.out.size))
      clear hbel
      go_wp2
      go_ret
      exact ⟨rfl, HB5.out⟩
    rcases Int.lt_or_le o 0 with q2 | q2
    · go_wp2_with fail
      refine (AW.out _ HB4.out).mono ?_
      rintro e w5 ⟨rfl, hbel⟩
      have HB5 := Lib.hid (HB4.out.trans (hbel.mono HB4.out.size))
      clear hbel
      go_wp2
      go_ret
      exact ⟨rfl, HB5.out⟩
    have q3 : 2147483647 < o := by omega
    go_wp2_with fail
    refine (AW.out _ HB4.out).mono ?_
    rintro e w5 ⟨rfl, hbel⟩
    have HB5 := Lib.hid (HB4.out.trans (hbel.mono HB4.out.size))
    clear hbel
    go_wp2
    go_ret
    exact ⟨rfl, HB5.out⟩
  · clear HC
    obtain ⟨hv12, k1, k2, -, -, -, e255, e65, ee0, ee1, ee2⟩ := rcheck_zero HRC.out
    obtain ⟨s, rfl⟩ := Int.eq_ofNat_of_zero_le hs0
    obtain ⟨o, rfl⟩ := Int.eq_ofNat_of_zero_le ho0
    obtain ⟨ki, rfl⟩ := Int.eq_ofNat_of_zero_le (show 0 ≤ ki by omega)
    obtain ⟨ex, rfl⟩ := Int.eq_ofNat_of_zero_le ee0
    simp only [Int.toNat_natCast] at h2
    have H2 := Lib.hid h2
    have HRBL : Hid (ra.length ≤ 1000) := by have h := rbytes_len v s o ki ex k' v'; rw [h2, HKL.out.1, HKL.out.2] at h; show _ ≤ _; omega
    clear h2 HA HRC CK
    have hs' : ¬ (s : Int) < 0 := by omega
    have ho' : ¬ (o : Int) < 0 := by omega
    have ho2 : ¬ (2147483647 : Int) < (o : Int) := by omega
    have RE := Lib.hid (fun (u : World) (hu : Below w.heap.size w u) => refREncode_any v s o ki ex k' v' Ak Av mk ck mv cv w.heap.size u hv12 (HK.out _ hu) (HV.out _ hu) hu.size (by omega) (by omega) (by omega) (by omega) (by omega) (by omega) ra H2.out)
    clear hv12 ee0 ee1 ee2 e255 e65 k1 k2
    go_wp2_with (first
      | (go_at_call 13; refine (AW.out _ HB4.out).mono ?_; rintro e w5 ⟨rfl, hbel⟩; have HB5 := Lib.hid (HB4.out.trans (hbel.mono HB4.out.size)); have HO5 := Lib.hid (HO4.out.keep hbel); obtain ⟨m0, m1, m2⟩ := HP4.out.below hbel (by have := HB4.out.size; omega); obtain ⟨n0, n1, n2, n3⟩ := HX4.out.below hbel hw4; clear hbel)
      | (go_at_call 15; refine (RE.out _ HB5.out).mono ?_; rintro e w6 ⟨A6, c6, rfl, hown, hbel⟩; have HO6 := Lib.hid hown; have HO5b := Lib.hid (HO5.out.keep hbel); have HB6 := Lib.hid (HB5.out.trans (hbel.mono HB5.out.size)); clear hown hbel)
      | (go_at_call 14; refine (eq_any ra ra A3 A6 ra.length ra.length c3 c6 _ _ _ HO5b.out.byt HO6.out.byt (by have := HRBL.out; omega) (by have := HRBL.out; omega)).mono ?_; rintro e w' ⟨rfl, q, rfl⟩; rw [decide_eq_true rfl]; have HB7 : Hid (Below w.heap.size w (w6.drewN q)) := ofDrewNs HB6.out q))
    go_ret
    exact ⟨rfl, HB7.out⟩
end Go.Proofs.YtcaliolcmooooaaDoor
