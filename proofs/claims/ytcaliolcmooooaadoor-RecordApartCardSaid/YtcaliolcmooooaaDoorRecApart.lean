/- The walk of the law RecordApart. -/
import Derived.Test.YtcaliolcmooooaaDoorRecCut
import Derived.Deep.RegionWith
import Derived.Deep.DeepCutAuto
namespace Go.Proofs.YtcaliolcmooooaaDoor
open Go.RowKit

theorem box_other {v : World} {g h : Nat} (hne : g ≠ h) {ki ex : Int} {Ak Av : Option Addr} {nk ck nv cv : Nat} (hb : BoxR v h ki Ak nk ck Av nv cv ex) (x0 x1 x2 x3 : Value) : BoxR ((((v.setCell ⟨g, 0, none⟩ x0).setCell ⟨g, 1, none⟩ x1).setCell ⟨g, 2, none⟩ x2).setCell ⟨g, 3, none⟩ x3) h ki Ak nk ck Av nv cv ex := by
  have ot : ∀ (u : World) (i j : Nat) (x : Value), (u.setCell ⟨g, i, none⟩ x).cell? ⟨h, j, none⟩ = u.cell? ⟨h, j, none⟩ := fun u i j x => World.cell?_setCell_other _ _ _ _ (fun e => by injection e; omega)
  exact ⟨by rw [ot, ot, ot, ot]; exact hb.1, by rw [ot, ot, ot, ot]; exact hb.2.1, by rw [ot, ot, ot, ot]; exact hb.2.2.1, by rw [ot, ot, ot, ot]; exact hb.2.2.2⟩

set_option maxRecDepth 100000 in
set_option maxHeartbeats 8000000 in
theorem recordApart_any (v s o ki ex ki' ex' : Int) (key val key' val' : List UInt8) (Ak Av Ak' Av' : Option Addr) (nk ck nv cv nk' ck' nv' cv' : Nat) (w : World) (ht : TabAt w) (h0 : 0 < w.heap.size) (hkb : Byt w w.heap.size Ak nk key) (hvb : Byt w w.heap.size Av nv val) (hkb' : Byt w w.heap.size Ak' nk' key') (hvb' : Byt w w.heap.size Av' nv' val')
    (hk : nk ≤ ck) (hv : nv ≤ cv) (hck : ck ≤ 9223372036854775807) (hcv : cv ≤ 9223372036854775807) (hk' : nk' ≤ ck') (hv' : nv' ≤ cv') (hck' : ck' ≤ 9223372036854775807) (hcv' : cv' ≤ 9223372036854775807) (hs : s ≤ 9223372036854775807) :
    Calls Tryd.prog 7 #[.agg #[.int .i64 v, .int .i64 s, .int .i64 o], .agg #[.int .i64 ki, .slice Ak nk ck, .slice Av nv cv, .int .i64 ex], .agg #[.int .i64 ki', .slice Ak' nk' ck', .slice Av' nv' cv', .int .i64 ex']] w fun e w' => e = .returned (.bool true) ∧ Below w.heap.size w w' := by
  have HT : Hid (∀ w', Below w.heap.size w w' → TabAt w' ∧ 0 < w'.heap.size) := fun w' hw => ⟨ht.below hw h0, Nat.lt_of_lt_of_le h0 hw.size⟩
  obtain ⟨mk, hmk⟩ : ∃ m, (nk ≤ 260 ∧ m = nk) ∨ (260 < nk ∧ m = 260) := by
    by_cases h : nk ≤ 260
    · exact ⟨nk, .inl ⟨h, rfl⟩⟩
    · exact ⟨260, .inr ⟨by omega, rfl⟩⟩
  obtain ⟨mv, hmv⟩ : ∃ m, (nv ≤ 200 ∧ m = nv) ∨ (200 < nv ∧ m = 200) := by
    by_cases h : nv ≤ 200
    · exact ⟨nv, .inl ⟨h, rfl⟩⟩
    · exact ⟨200, .inr ⟨by omega, rfl⟩⟩
  have HK : Hid (∀ w', Below w.heap.size w w' → Byt w' w.heap.size Ak mk (key.take mk)) := fun w' hw => (hkb.take (by omega)).below hw
  have HV : Hid (∀ w', Below w.heap.size w w' → Byt w' w.heap.size Av mv (val.take mv)) := fun w' hw => (hvb.take (by omega)).below hw
  obtain ⟨ke, hke⟩ : ∃ x, key.take mk = x := ⟨_, rfl⟩
  obtain ⟨va, hva⟩ : ∃ x, val.take mv = x := ⟨_, rfl⟩
  rw [hke] at HK
  rw [hva] at HV
  have SH := Lib.hid (short_any ki ex Ak Av nk ck nv cv mk mv hk hv hck hcv hmk hmv)
  obtain ⟨⟨ra, x⟩, hra⟩ : ∃ r, rencS v s o ki ex ke va = r := ⟨_, rfl⟩
  have HA := Lib.hid hra
  have hmk1 : mk ≤ 260 := by omega
  have hmv1 : mv ≤ 200 := by omega
  obtain ⟨mk', hmk'⟩ : ∃ m, (nk' ≤ 260 ∧ m = nk') ∨ (260 < nk' ∧ m = 260) := by
    by_cases h : nk' ≤ 260
    · exact ⟨nk', .inl ⟨h, rfl⟩⟩
    · exact ⟨260, .inr ⟨by omega, rfl⟩⟩
  obtain ⟨mv', hmv'⟩ : ∃ m, (nv' ≤ 200 ∧ m = nv') ∨ (200 < nv' ∧ m = 200) := by
    by_cases h : nv' ≤ 200
    · exact ⟨nv', .inl ⟨h, rfl⟩⟩
    · exact ⟨200, .inr ⟨by omega, rfl⟩⟩
  have HK' : Hid (∀ w', Below w.heap.size w w' → Byt w' w.heap.size Ak' mk' (key'.take mk')) := fun w' hw => (hkb'.take (by omega)).below hw
  have HV' : Hid (∀ w', Below w.heap.size w w' → Byt w' w.heap.size Av' mv' (val'.take mv')) := fun w' hw => (hvb'.take (by omega)).below hw
  obtain ⟨ke', hke'⟩ : ∃ x, key'.take mk' = x := ⟨_, rfl⟩
  obtain ⟨va', hva'⟩ : ∃ x, val'.take mv' = x := ⟨_, rfl⟩
  rw [hke'] at HK'
  rw [hva'] at HV'
  have SH' := Lib.hid (short_any ki' ex' Ak' Av' nk' ck' nv' cv' mk' mv' hk' hv' hck' hcv' hmk' hmv')
  obtain ⟨⟨ra', x'⟩, hra'⟩ : ∃ r, rencS v s o ki' ex' ke' va' = r := ⟨_, rfl⟩
  have HA' := Lib.hid hra'
  have hmk1' : mk' ≤ 260 := by omega
  have hmv1' : mv' ≤ 200 := by omega
  have hC : (¬ x = 0 ∨ (x = 0 ∧ ¬ x' = 0)) ∨ (x = 0 ∧ x' = 0 ∧ decide (ra = ra') = decide (ki = ki' ∧ ex = ex' ∧ ke = ke' ∧ va = va') ∧ ra.length ≤ 1000 ∧ ra'.length ≤ 1000) := by
    by_cases hx : x = 0
    · by_cases hx' : x' = 0
      · right
        have a1 : (rencS v s o ki ex ke va).2 = 0 := by rw [hra]; exact hx
        have a2 : (rencS v s o ki' ex' ke' va').2 = 0 := by rw [hra']; exact hx'
        have hi := rencS_inj a1 a2
        rw [hra, hra'] at hi
        obtain ⟨_, _, _, _, e1⟩ := rencS_ok a1
        obtain ⟨_, _, _, _, e2⟩ := rencS_ok a2
        rw [hra] at e1
        rw [hra'] at e2
        injection e1 with e1 _
        injection e2 with e2 _
        have b1 := (HK.out w (Below.refl _ _)).len
        have b2 := (HV.out w (Below.refl _ _)).len
        have b3 := (HK'.out w (Below.refl _ _)).len
        have b4 := (HV'.out w (Below.refl _ _)).len
        refine ⟨hx, hx', ?_, by rw [e1, rbytes_len]; omega, by rw [e2, rbytes_len]; omega⟩
        rw [Bool.eq_iff_iff, decide_eq_true_iff, decide_eq_true_iff]
        exact hi
      · exact .inl (.inr ⟨hx, hx'⟩)
    · exact .inl (.inl hx)
  have HC := Lib.hid hC
  have HB0 : Hid (Below w.heap.size w (((w.alloc (.cells #[.int .i64 v, .int .i64 s, .int .i64 o] 23)).alloc (.cells #[.int .i64 ki, .slice Ak nk ck, .slice Av nv cv, .int .i64 ex] 26)).alloc (.cells #[.int .i64 ki', .slice Ak' nk' ck', .slice Av' nv' cv', .int .i64 ex'] 26))) := Below.alloc (Below.alloc (Below.alloc (Below.refl _ _) (Nat.le_refl _) _) (by simp) _) (by simp; omega) _
  have HP0 : Hid (BoxP (((w.alloc (.cells #[.int .i64 v, .int .i64 s, .int .i64 o] 23)).alloc (.cells #[.int .i64 ki, .slice Ak nk ck, .slice Av nv cv, .int .i64 ex] 26)).alloc (.cells #[.int .i64 ki', .slice Ak' nk' ck', .slice Av' nv' cv', .int .i64 ex'] 26)) w.heap.size v s o) := (BoxP.new w 23 v s o).below (B := w.heap.size + 1) (Below.alloc (Below.alloc (Below.refl _ _) (by simp) _) (by simp) _) (by omega)
  have HX0 : Hid (BoxR (((w.alloc (.cells #[.int .i64 v, .int .i64 s, .int .i64 o] 23)).alloc (.cells #[.int .i64 ki, .slice Ak nk ck, .slice Av nv cv, .int .i64 ex] 26)).alloc (.cells #[.int .i64 ki', .slice Ak' nk' ck', .slice Av' nv' cv', .int .i64 ex'] 26)) (w.heap.size + 1) ki Ak nk ck Av nv cv ex) := by
    have h := BoxR.new (w.alloc (.cells #[.int .i64 v, .int .i64 s, .int .i64 o] 23)) 26 ki ex Ak Av nk ck nv cv
    rw [World.size_alloc] at h
    exact h.below (B := w.heap.size + 1 + 1) (Below.alloc (Below.refl _ _) (by simp) _) (by omega)
  have HY0 : Hid (BoxR (((w.alloc (.cells #[.int .i64 v, .int .i64 s, .int .i64 o] 23)).alloc (.cells #[.int .i64 ki, .slice Ak nk ck, .slice Av nv cv, .int .i64 ex] 26)).alloc (.cells #[.int .i64 ki', .slice Ak' nk' ck', .slice Av' nv' cv', .int .i64 ex'] 26)) (w.heap.size + 1 + 1) ki' Ak' nk' ck' Av' nv' cv' ex') := by
    have h := BoxR.new ((w.alloc (.cells #[.int .i64 v, .int .i64 s, .int .i64 o] 23)).alloc (.cells #[.int .i64 ki, .slice Ak nk ck, .slice Av nv cv, .int .i64 ex] 26)) 26 ki' ex' Ak' Av' nk' ck' nv' cv'
    rwa [World.size_alloc, World.size_alloc] at h
  have HF0 : Hid (∀ j, (((w.alloc (.cells #[.int .i64 v, .int .i64 s, .int .i64 o] 23)).alloc (.cells #[.int .i64 ki, .slice Ak nk ck, .slice Av nv cv, .int .i64 ex] 26)).alloc (.cells #[.int .i64 ki', .slice Ak' nk' ck', .slice Av' nv' cv', .int .i64 ex'] 26)).frozen? ⟨w.heap.size + 1, j, none⟩ = false) := fun j => by
    have h := frozen_of_row _ _ j _ _ (heap_alloc_new (w.alloc (.cells #[.int .i64 v, .int .i64 s, .int .i64 o] 23)) (.cells #[.int .i64 ki, .slice Ak nk ck, .slice Av nv cv, .int .i64 ex] 26))
    rw [World.size_alloc] at h
    exact ((Below.alloc (Below.refl (w.heap.size + 1 + 1) ((w.alloc (.cells #[.int .i64 v, .int .i64 s, .int .i64 o] 23)).alloc (.cells #[.int .i64 ki, .slice Ak nk ck, .slice Av nv cv, .int .i64 ex] 26))) (by simp) (.cells #[.int .i64 ki', .slice Ak' nk' ck', .slice Av' nv' cv', .int .i64 ex'] 26)).frozen (p := ⟨w.heap.size + 1, j, none⟩) (by simp)).trans h
  have HG0 : Hid (∀ j, (((w.alloc (.cells #[.int .i64 v, .int .i64 s, .int .i64 o] 23)).alloc (.cells #[.int .i64 ki, .slice Ak nk ck, .slice Av nv cv, .int .i64 ex] 26)).alloc (.cells #[.int .i64 ki', .slice Ak' nk' ck', .slice Av' nv' cv', .int .i64 ex'] 26)).frozen? ⟨w.heap.size + 1 + 1, j, none⟩ = false) := fun j => by
    have h := frozen_of_row _ _ j _ _ (heap_alloc_new ((w.alloc (.cells #[.int .i64 v, .int .i64 s, .int .i64 o] 23)).alloc (.cells #[.int .i64 ki, .slice Ak nk ck, .slice Av nv cv, .int .i64 ex] 26)) (.cells #[.int .i64 ki', .slice Ak' nk' ck', .slice Av' nv' cv', .int .i64 ex'] 26))
    rwa [World.size_alloc, World.size_alloc] at h
  clear hC hra hra' hke hva hke' hva' hkb hvb hkb' hvb' ht h0 hmk hmv hk hv hck hcv hmk' hmv' hk' hv' hck' hcv'
  go_enter Tryd.func7, Tryd.ntmps7
  go_upto_region 1 with fail
  have HX0d : Hid (BoxR (((w.alloc (.cells #[.int .i64 v, .int .i64 s, .int .i64 o] 23)).alloc (.cells #[.int .i64 ki, .slice Ak nk ck, .slice Av nv cv, .int .i64 ex] 26)).alloc (.cells #[.int .i64 ki', .slice Ak' nk' ck', .slice Av' nv' cv', .int .i64 ex'] 26)).drew (w.heap.size + 1) ki Ak nk ck Av nv cv ex) := HX0.out
  have HY0d : Hid (BoxR (((w.alloc (.cells #[.int .i64 v, .int .i64 s, .int .i64 o] 23)).alloc (.cells #[.int .i64 ki, .slice Ak nk ck, .slice Av nv cv, .int .i64 ex] 26)).alloc (.cells #[.int .i64 ki', .slice Ak' nk' ck', .slice Av' nv' cv', .int .i64 ex'] 26)).drew (w.heap.size + 1 + 1) ki' Ak' nk' ck' Av' nv' cv' ex') := HY0.out
  have HP0d : Hid (BoxP (((w.alloc (.cells #[.int .i64 v, .int .i64 s, .int .i64 o] 23)).alloc (.cells #[.int .i64 ki, .slice Ak nk ck, .slice Av nv cv, .int .i64 ex] 26)).alloc (.cells #[.int .i64 ki', .slice Ak' nk' ck', .slice Av' nv' cv', .int .i64 ex'] 26)).drew w.heap.size v s o) := HP0.out
  have HF0d : Hid (∀ j, (((w.alloc (.cells #[.int .i64 v, .int .i64 s, .int .i64 o] 23)).alloc (.cells #[.int .i64 ki, .slice Ak nk ck, .slice Av nv cv, .int .i64 ex] 26)).alloc (.cells #[.int .i64 ki', .slice Ak' nk' ck', .slice Av' nv' cv', .int .i64 ex'] 26)).drew.frozen? ⟨w.heap.size + 1, j, none⟩ = false) := HF0.out
  have HG0d : Hid (∀ j, (((w.alloc (.cells #[.int .i64 v, .int .i64 s, .int .i64 o] 23)).alloc (.cells #[.int .i64 ki, .slice Ak nk ck, .slice Av nv cv, .int .i64 ex] 26)).alloc (.cells #[.int .i64 ki', .slice Ak' nk' ck', .slice Av' nv' cv', .int .i64 ex'] 26)).drew.frozen? ⟨w.heap.size + 1 + 1, j, none⟩ = false) := HG0.out
  have HB0d := Lib.hid (Below.drew HB0.out)
  go_cut [] (fun wx => Below w.heap.size w wx ∧ BoxP wx w.heap.size v s o ∧ BoxR wx (w.heap.size + 1) ki Ak mk ck Av mv cv ex ∧ BoxR wx (w.heap.size + 1 + 1) ki' Ak' mk' ck' Av' mv' cv' ex' ∧ w.heap.size + 1 + 1 < wx.heap.size)
  case first =>
    go_region_with (first
      | (go_at_call 10; (with_reducible refine (SH.out _).mono ?_); rintro e w1 ⟨rfl, hbel⟩; have HB1 : Hid (Below w.heap.size w w1) := HB0d.out.trans (hbel.mono HB0d.out.size); have HBL1 : Hid (Below (w.heap.size + 1 + 1 + 1) _ w1) := hbel.mono (by simp); have hw1 : w.heap.size + 1 + 1 < w1.heap.size := (by have := hbel.size; simp at this; omega); obtain ⟨y0, y1, y2, y3⟩ := HY0d.out.below HBL1.out (by omega); clear hbel)
      | (go_at_call 10; (with_reducible refine (SH'.out _).mono ?_); rintro e w2 ⟨rfl, hbel⟩; have HB2 : Hid (Below w.heap.size w w2) := HB1.out.trans (hbel.mono HB1.out.size); have HBL2 := Lib.hid (HBL1.out.trans (hbel.mono (by omega))); have hw2 : w.heap.size + 1 + 1 < w2.heap.size := Nat.lt_of_lt_of_le hw1 hbel.size; obtain ⟨z0, z1, z2, z3⟩ := HX0d.out.below HBL2.out (by omega); obtain ⟨u0, u1, u2, u3⟩ := HY0d.out.below HBL2.out (by omega); have f0 := (HBL2.out.frozen (p := ⟨w.heap.size + 1, 0, none⟩) (by simp)).trans (HF0d.out 0); have f1 := (HBL2.out.frozen (p := ⟨w.heap.size + 1, 1, none⟩) (by simp)).trans (HF0d.out 1); have f2 := (HBL2.out.frozen (p := ⟨w.heap.size + 1, 2, none⟩) (by simp)).trans (HF0d.out 2); have f3 := (HBL2.out.frozen (p := ⟨w.heap.size + 1, 3, none⟩) (by simp)).trans (HF0d.out 3); have g0 := (HBL2.out.frozen (p := ⟨w.heap.size + 1 + 1, 0, none⟩) (by simp)).trans (HG0d.out 0); have g1 := (HBL2.out.frozen (p := ⟨w.heap.size + 1 + 1, 1, none⟩) (by simp)).trans (HG0d.out 1); have g2 := (HBL2.out.frozen (p := ⟨w.heap.size + 1 + 1, 2, none⟩) (by simp)).trans (HG0d.out 2); have g3 := (HBL2.out.frozen (p := ⟨w.heap.size + 1 + 1, 3, none⟩) (by simp)).trans (HG0d.out 3); clear hbel))
    all_goals
      have HXa := Lib.hid (HX0d.out.below HBL2.out (by omega))
      have HYa := Lib.hid (HY0d.out.below HBL2.out (by omega))
      have HPa := Lib.hid (HP0d.out.below HBL2.out (by omega))
      have HS1 := Lib.hid (box_set (ki := ki) (ex := ex) (Ak := Ak) (Av := Av) (nk := mk) (ck := ck) (nv := mv) (cv := cv) HXa.out _ rfl)
      have HY1 := Lib.hid (box_other (g := w.heap.size + 1) (by omega) HYa.out (.int .i64 ki) (.slice Ak mk ck) (.slice Av mv cv) (.int .i64 ex))
      have HS2 := Lib.hid (box_set (ki := ki') (ex := ex') (Ak := Ak') (Av := Av') (nk := mk') (ck := ck') (nv := mv') (cv := cv') HY1.out _ rfl)
      have HX2 := Lib.hid (box_other (g := w.heap.size + 1 + 1) (by omega) HS1.out.1 (.int .i64 ki') (.slice Ak' mk' ck') (.slice Av' mv' cv') (.int .i64 ex'))
      have HB := Lib.hid ((HB2.out.trans (HS1.out.2.2 _ (by omega))).trans (HS2.out.2.2 _ (by omega)))
      have HP2 := Lib.hid ((HPa.out.below (HS1.out.2.2 _ (Nat.le_refl _)) (by omega)).below (HS2.out.2.2 _ (Nat.le_refl _)) (by omega))
      have hsz := Nat.lt_of_lt_of_eq hw2 ((HS2.out.2.1).trans HS1.out.2.1).symm
      clear z0 z1 z2 z3 u0 u1 u2 u3 f0 f1 f2 f3 g0 g1 g2 g3 y0 y1 y2 y3
      go_wp2_with fail
      (try go_simp)
      go_meet
      exact ⟨HB.out, HP2.out, HX2.out, HS2.out.1, hsz⟩
  case rest =>
    obtain ⟨hbel, hp, hx, hy, hsz⟩ := hcut
    have HBC := Lib.hid hbel
    have HPC := Lib.hid hp
    have HXC := Lib.hid hx
    have HYC := Lib.hid hy
    obtain ⟨p0, p1, p2⟩ := hp
    obtain ⟨x0, x1, x2, x3⟩ := hx
    clear hbel hy HB0d HX0d HY0d HP0d HF0d HG0d HB0 HX0 HY0 HP0 HF0 HG0 SH SH'
    go_wp2_with fail
    refine (recEncode_any v s o ki ex ke va Ak Av mk ck mv cv w.heap.size _ (HT.out _ HBC.out).1 (HT.out _ HBC.out).2 (HK.out _ HBC.out) (HV.out _ HBC.out) HBC.out.size (by omega) (by omega) hs _ HA.out).mono ?_
    rintro e w3 ⟨A3, c3, rfl, hown, hbel⟩
    simp only at hown ⊢
    have HO3 := Lib.hid hown
    have HB3 := Lib.hid (HBC.out.trans (hbel.mono HBC.out.size))
    have HP3 := Lib.hid (HPC.out.below hbel (by omega))
    have HX3 := Lib.hid (HXC.out.below hbel (by omega))
    have HY3 := Lib.hid (HYC.out.below hbel (by omega))
    have hw3 : w.heap.size + 1 + 1 < w3.heap.size := Nat.lt_of_lt_of_le hsz hbel.size
    clear hown hbel p0 p1 p2 x0 x1 x2 x3
    obtain ⟨p0, p1, p2⟩ := HP3.out
    obtain ⟨y0, y1, y2, y3⟩ := HY3.out
    go_wp2_with fail
    refine (recEncode_any v s o ki' ex' ke' va' Ak' Av' mk' ck' mv' cv' w.heap.size _ (HT.out _ HB3.out).1 (HT.out _ HB3.out).2 (HK'.out _ HB3.out) (HV'.out _ HB3.out) HB3.out.size (by omega) (by omega) hs _ HA'.out).mono ?_
    rintro e w4 ⟨A4, c4, rfl, hown, hbel⟩
    simp only at hown ⊢
    have HO4 := Lib.hid hown
    have HO3b := Lib.hid (HO3.out.keep hbel)
    have HB4 := Lib.hid (HB3.out.trans (hbel.mono HB3.out.size))
    have HX4 := Lib.hid (HX3.out.below hbel (by omega))
    have HY4 := Lib.hid (HY3.out.below hbel (by omega))
    have hw4 : w.heap.size + 1 + 1 < w4.heap.size := Nat.lt_of_lt_of_le hw3 hbel.size
    clear hown hbel p0 p1 p2 y0 y1 y2 y3
    have AW := Lib.hid (fun (u : World) (hu : Below w.heap.size w u) => recAwake_any u (HT.out _ hu).1 (HT.out _ hu).2)
    rcases HC.out with (hx | ⟨rfl, hx⟩) | ⟨rfl, rfl, hE, hl, hl'⟩
    · clear HC
      go_wp2_with fail
      refine (AW.out _ HB4.out).mono ?_
      rintro e w5 ⟨rfl, hbel⟩
      have HB5 := Lib.hid (HB4.out.trans (hbel.mono HB4.out.size))
      clear hbel
      go_wp2
      go_ret
      exact ⟨rfl, HB5.out⟩
    · clear HC
      go_wp2_with fail
      refine (AW.out _ HB4.out).mono ?_
      rintro e w5 ⟨rfl, hbel⟩
      have HB5 := Lib.hid (HB4.out.trans (hbel.mono HB4.out.size))
      clear hbel
      go_wp2
      go_ret
      exact ⟨rfl, HB5.out⟩
    · clear HC
      obtain ⟨bq, hbq⟩ : ∃ b, decide (ra = ra') = b := ⟨_, rfl⟩
      rw [hbq] at hE
      have HBQ := Lib.hid hbq
      have HE := Lib.hid hE.symm
      clear hE hbq
      cases bq
      all_goals
        go_wp2_with fail
        obtain ⟨x0, x1, x2, x3⟩ := HX4.out
        obtain ⟨y0, y1, y2, y3⟩ := HY4.out
        go_region_held3 (fun w' => (w'.cell? ⟨w.heap.size + 1, 0, none⟩ = some (.int .i64 ki) ∧ w'.cell? ⟨w.heap.size + 1, 1, none⟩ = some (.slice Ak mk ck) ∧ w'.cell? ⟨w.heap.size + 1, 2, none⟩ = some (.slice Av mv cv) ∧ w'.cell? ⟨w.heap.size + 1, 3, none⟩ = some (.int .i64 ex)) ∧ (w'.cell? ⟨w.heap.size + 1 + 1, 0, none⟩ = some (.int .i64 ki') ∧ w'.cell? ⟨w.heap.size + 1 + 1, 1, none⟩ = some (.slice Ak' mk' ck') ∧ w'.cell? ⟨w.heap.size + 1 + 1, 2, none⟩ = some (.slice Av' mv' cv') ∧ w'.cell? ⟨w.heap.size + 1 + 1, 3, none⟩ = some (.int .i64 ex'))) (go_keep) (first
          | (go_at_call 13; refine (AW.out _ (Below.drew HB4.out)).mono ?_; rintro e w5 ⟨rfl, hbel⟩; have HD5 : Hid (Below w4.heap.size w4 w5) := (Below.drew (Below.refl _ _)).trans hbel; have HB5 := Lib.hid (HB4.out.trans (HD5.out.mono HB4.out.size)); obtain ⟨m0, m1, m2, m3⟩ := HX4.out.below HD5.out (by omega); obtain ⟨n0, n1, n2, n3⟩ := HY4.out.below HD5.out (by omega); clear hbel)
          | (go_at_call 14; refine (eq_any ra ra' A3 A4 _ _ c3 c4 _ _ _ (HO3b.out.byt.below HD5.out) (HO4.out.byt.below HD5.out) (by omega) (by omega)).mono ?_; rintro e w' ⟨rfl, q, rfl⟩; rw [HBQ.out]; have HD6 : Hid (Below w4.heap.size w4 (w5.drewN q)) := ofDrewNs HD5.out q; have HB6 : Hid (Below w.heap.size w (w5.drewN q)) := ofDrewNs HB5.out q; obtain ⟨r0, r1, r2, r3⟩ := HX4.out.below HD6.out (by omega); obtain ⟨s0, s1, s2, s3⟩ := HY4.out.below HD6.out (by omega))
          | (go_at_call 18; refine (refREq_any ki ex ki' ex' ke va ke' va' Ak Av Ak' Av' mk ck mv cv mk' ck' mv' cv' w.heap.size _ (HK.out _ HB6.out) (HV.out _ HB6.out) (HK'.out _ HB6.out) (HV'.out _ HB6.out) HB6.out.size (by omega) (by omega) (by omega) (by omega) _ HE.out).mono ?_; rintro e w7 ⟨rfl, hbel⟩; have HD7 : Hid (Below w4.heap.size w4 w7) := HD6.out.trans (hbel.mono HD6.out.size); have HB7 := Lib.hid (HB6.out.trans (hbel.mono HB6.out.size)); obtain ⟨t0, t1, t2, t3⟩ := HX4.out.below HD7.out (by omega); obtain ⟨v0, v1, v2, v3⟩ := HY4.out.below HD7.out (by omega); clear hbel))
        all_goals (try go_wp2)
        all_goals go_ret
        all_goals exact ⟨rfl, HB7.out⟩
end Go.Proofs.YtcaliolcmooooaaDoor
