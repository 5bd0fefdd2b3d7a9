/- The walk of the law RecordRound. -/
import Derived.Test.YtcaliolcmooooaaDoorRecCut
import Derived.Test.YtcaliolcmooooaaDoorAppFar
import Derived.Deep.DeepCutAuto
import Derived.Deep.RegionHeld3
import Derived.Deep.RegionWith
namespace Go.Proofs.YtcaliolcmooooaaDoor
open Go.RowKit

set_option maxRecDepth 100000 in
set_option maxHeartbeats 8000000 in
theorem recordRound_any (v s o ki ex : Int) (key val : List UInt8) (Ak Av : Option Addr) (nk ck nv cv : Nat) (w : World) (ht : TabAt w) (h0 : 0 < w.heap.size) (hkb : Byt w w.heap.size Ak nk key) (hvb : Byt w w.heap.size Av nv val) (hk : nk ≤ ck) (hv : nv ≤ cv) (hck : ck ≤ 9223372036854775807) (hcv : cv ≤ 9223372036854775807) (hs : s ≤ 9223372036854775807) (mo : List UInt8) (Am : Option Addr) (nm cm : Nat) (hmb : Byt w w.heap.size Am nm mo) (hm : nm ≤ cm) (hcm : cm ≤ 9223372036854775807) :
    Calls Tryd.prog 9 #[.agg #[.int .i64 v, .int .i64 s, .int .i64 o], .agg #[.int .i64 ki, .slice Ak nk ck, .slice Av nv cv, .int .i64 ex], .slice Am nm cm] w fun e w' => e = .returned (.bool true) ∧ Below w.heap.size w w' := by
  have HT : Hid (∀ w', Below w.heap.size w w' → TabAt w' ∧ 0 < w'.heap.size) := fun w' hw => ⟨ht.below hw h0, Nat.lt_of_lt_of_le h0 hw.size⟩
  obtain ⟨mk, hmk⟩ : ∃ mk, (nk ≤ 260 ∧ mk = nk) ∨ (260 < nk ∧ mk = 260) := by
    by_cases h : nk ≤ 260
    · exact ⟨nk, .inl ⟨h, rfl⟩⟩
    · exact ⟨260, .inr ⟨by omega, rfl⟩⟩
  obtain ⟨mv, hmv⟩ : ∃ mv, (nv ≤ 200 ∧ mv = nv) ∨ (200 < nv ∧ mv = 200) := by
    by_cases h : nv ≤ 200
    · exact ⟨nv, .inl ⟨h, rfl⟩⟩
    · exact ⟨200, .inr ⟨by omega, rfl⟩⟩
  have HK : Hid (∀ w', Below w.heap.size w w' → Byt w' w.heap.size Ak mk (key.take mk)) := fun w' hw => (hkb.take (by omega)).below hw
  have HV : Hid (∀ w', Below w.heap.size w w' → Byt w' w.heap.size Av mv (val.take mv)) := fun w' hw => (hvb.take (by omega)).below hw
  have hkl := (HK.out w (Below.refl _ _)).len
  have hvl := (HV.out w (Below.refl _ _)).len
  obtain ⟨k', hk'⟩ : ∃ k', key.take mk = k' := ⟨_, rfl⟩
  obtain ⟨v', hv'⟩ : ∃ v', val.take mv = v' := ⟨_, rfl⟩
  rw [hk'] at HK hkl
  rw [hv'] at HV hvl
  have SH := Lib.hid (short_any ki ex Ak Av nk ck nv cv mk mv hk hv hck hcv hmk hmv)
  have hmk1 : mk ≤ 260 := by omega
  have hmv1 : mv ≤ 200 := by omega
  obtain ⟨mm, hmm⟩ : ∃ mm, (nm ≤ 40 ∧ mm = nm) ∨ (40 < nm ∧ mm = 40) := by
    by_cases h : nm ≤ 40
    · exact ⟨nm, .inl ⟨h, rfl⟩⟩
    · exact ⟨40, .inr ⟨by omega, rfl⟩⟩
  obtain ⟨mo', hmo'⟩ : ∃ x, mo.take mm = x := ⟨_, rfl⟩
  have HM : Hid (∀ w', Below w.heap.size w w' → Byt w' w.heap.size Am mm mo') := fun w' hw => by rw [← hmo']; exact (hmb.take (by omega)).below hw
  obtain ⟨⟨ra, x⟩, ha⟩ : ∃ r, rencS v s o ki ex k' v' = r := ⟨_, rfl⟩
  obtain ⟨L, hL⟩ : ∃ L, 16 + mk + mv = L := ⟨_, rfl⟩
  have hC : (¬ x = 0 ∧ ra = []) ∨ (x = 0 ∧ ra.length = L ∧ rdec v s o (ra ++ mo') = some ((ki, ex, k', v'), L)) := by
    by_cases hx : x = 0
    · right
      have hx2 : (rencS v s o ki ex k' v').2 = 0 := by rw [ha]; exact hx
      obtain ⟨_, _, _, _, he⟩ := rencS_ok hx2
      rw [ha] at he
      injection he with he _
      have hd := rdec_enc hx2 mo'
      rw [ha, hkl, hvl] at hd
      exact ⟨hx, by rw [he, rbytes_len, hkl, hvl, hL], by rw [← hL]; exact hd⟩
    · left
      refine ⟨hx, ?_⟩
      unfold rencS at ha
      split at ha
      · injection ha with h1 _; exact h1.symm
      · split at ha
        · injection ha with h1 _; exact h1.symm
        · injection ha with _ h2; exact absurd h2.symm hx
  have HA := Lib.hid ha
  have HC := Lib.hid hC
  have HKL := Lib.hid (show k'.length = mk ∧ v'.length = mv from ⟨hkl, hvl⟩)
  have LN := Lib.hid (length_any ki ex Ak Av mk ck mv cv (by omega) (by omega))
  have hLI : (16 : Int) + (mk : Int) + (mv : Int) = (L : Int) := by omega
  have hL1 : L ≤ 476 := by omega
  have hmm1 : mm ≤ 40 := by omega
  have HB0 : Hid (Below w.heap.size w ((w.alloc (.cells #[.int .i64 v, .int .i64 s, .int .i64 o] 23)).alloc (.cells #[.int .i64 ki, .slice Ak nk ck, .slice Av nv cv, .int .i64 ex] 26))) := Below.alloc (Below.alloc (Below.refl _ _) (Nat.le_refl _) _) (by simp) _
  have HP0 : Hid (BoxP ((w.alloc (.cells #[.int .i64 v, .int .i64 s, .int .i64 o] 23)).alloc (.cells #[.int .i64 ki, .slice Ak nk ck, .slice Av nv cv, .int .i64 ex] 26)) w.heap.size v s o) := (BoxP.new w 23 v s o).below (B := w.heap.size + 1) (Below.alloc (Below.refl _ _) (by simp) _) (by omega)
  have HX0 : Hid (BoxR ((w.alloc (.cells #[.int .i64 v, .int .i64 s, .int .i64 o] 23)).alloc (.cells #[.int .i64 ki, .slice Ak nk ck, .slice Av nv cv, .int .i64 ex] 26)) (w.heap.size + 1) ki Ak nk ck Av nv cv ex) := by
    have h := BoxR.new (w.alloc (.cells #[.int .i64 v, .int .i64 s, .int .i64 o] 23)) 26 ki ex Ak Av nk ck nv cv
    rwa [World.size_alloc] at h
  have HF0 : Hid (∀ j, ((w.alloc (.cells #[.int .i64 v, .int .i64 s, .int .i64 o] 23)).alloc (.cells #[.int .i64 ki, .slice Ak nk ck, .slice Av nv cv, .int .i64 ex] 26)).frozen? ⟨w.heap.size + 1, j, none⟩ = false) := fun j => by
    have h := frozen_of_row _ _ j _ _ (heap_alloc_new (w.alloc (.cells #[.int .i64 v, .int .i64 s, .int .i64 o] 23)) (.cells #[.int .i64 ki, .slice Ak nk ck, .slice Av nv cv, .int .i64 ex] 26))
    rwa [World.size_alloc] at h
  have HB0d := Lib.hid (Below.drew HB0.out)
  have HX0d : Hid (BoxR ((w.alloc (.cells #[.int .i64 v, .int .i64 s, .int .i64 o] 23)).alloc (.cells #[.int .i64 ki, .slice Ak nk ck, .slice Av nv cv, .int .i64 ex] 26)).drew (w.heap.size + 1) ki Ak nk ck Av nv cv ex) := HX0.out
  have HP0d : Hid (BoxP ((w.alloc (.cells #[.int .i64 v, .int .i64 s, .int .i64 o] 23)).alloc (.cells #[.int .i64 ki, .slice Ak nk ck, .slice Av nv cv, .int .i64 ex] 26)).drew w.heap.size v s o) := HP0.out
  have HF0d : Hid (∀ j, ((w.alloc (.cells #[.int .i64 v, .int .i64 s, .int .i64 o] 23)).alloc (.cells #[.int .i64 ki, .slice Ak nk ck, .slice Av nv cv, .int .i64 ex] 26)).drew.frozen? ⟨w.heap.size + 1, j, none⟩ = false) := HF0.out
  have HMM := Lib.hid hmm
  have hmc : (mm : Int) ≤ (cm : Int) := by omega
  clear ha hC hk' hv' hkl hvl hkb hvb ht h0 hmk hmv hk hv hck hcv hmm hmo' hmb hcm
  have AW := Lib.hid (fun (u : World) (hu : Below w.heap.size w u) => recAwake_any u (HT.out _ hu).1 (HT.out _ hu).2)
  go_enter Tryd.func9, Tryd.ntmps9
  go_upto_region 1 with fail
  go_cut [2] (fun m wx => m = .slice Am mm cm ∧ Below w.heap.size w wx ∧ BoxP wx w.heap.size v s o ∧ BoxR wx (w.heap.size + 1) ki Ak mk ck Av mv cv ex ∧ w.heap.size + 1 < wx.heap.size)
  case first =>
    rcases HMM.out with ⟨hm1, rfl⟩ | ⟨hm1, rfl⟩
    · have hm1' : (mm : Int) ≤ 40 := by omega
      go_region_with (first
        | (go_at_call 10; (with_reducible refine (SH.out _).mono ?_); rintro e w1 ⟨rfl, hbel⟩; have HB1 : Hid (Below w.heap.size w w1) := HB0d.out.trans (hbel.mono HB0d.out.size); have HBL1 : Hid (Below (w.heap.size + 1 + 1) _ w1) := hbel.mono (by simp); have hw1 : w.heap.size + 1 < w1.heap.size := (by have := hbel.size; simp at this; omega); obtain ⟨z0, z1, z2, z3⟩ := HX0d.out.below HBL1.out (by omega); have f0 := (HBL1.out.frozen (p := ⟨w.heap.size + 1, 0, none⟩) (by simp)).trans (HF0d.out 0); have f1 := (HBL1.out.frozen (p := ⟨w.heap.size + 1, 1, none⟩) (by simp)).trans (HF0d.out 1); have f2 := (HBL1.out.frozen (p := ⟨w.heap.size + 1, 2, none⟩) (by simp)).trans (HF0d.out 2); have f3 := (HBL1.out.frozen (p := ⟨w.heap.size + 1, 3, none⟩) (by simp)).trans (HF0d.out 3); clear hbel))
      all_goals
        have HXa := Lib.hid (HX0d.out.below HBL1.out (by omega))
        have HPa := Lib.hid (HP0d.out.below HBL1.out (by omega))
        have HS1 := Lib.hid (box_set (ki := ki) (ex := ex) (Ak := Ak) (Av := Av) (nk := mk) (ck := ck) (nv := mv) (cv := cv) HXa.out _ rfl)
        have HB := Lib.hid (HB1.out.trans (HS1.out.2.2 _ (by omega)))
        have HP2 := Lib.hid (HPa.out.below (HS1.out.2.2 _ (Nat.le_refl _)) (by omega))
        have hsz := Nat.lt_of_lt_of_eq hw1 (HS1.out.2.1).symm
        clear z0 z1 z2 z3 f0 f1 f2 f3
        go_wp2_with fail
        (try go_simp)
        go_meet
        exact ⟨rfl, HB.out, HP2.out, HS1.out.1, hsz⟩
    · have hm1' : (40 : Int) < (nm : Int) := by omega
      go_region_with (first
        | (go_at_call 10; (with_reducible refine (SH.out _).mono ?_); rintro e w1 ⟨rfl, hbel⟩; have HB1 : Hid (Below w.heap.size w w1) := HB0d.out.trans (hbel.mono HB0d.out.size); have HBL1 : Hid (Below (w.heap.size + 1 + 1) _ w1) := hbel.mono (by simp); have hw1 : w.heap.size + 1 < w1.heap.size := (by have := hbel.size; simp at this; omega); obtain ⟨z0, z1, z2, z3⟩ := HX0d.out.below HBL1.out (by omega); have f0 := (HBL1.out.frozen (p := ⟨w.heap.size + 1, 0, none⟩) (by simp)).trans (HF0d.out 0); have f1 := (HBL1.out.frozen (p := ⟨w.heap.size + 1, 1, none⟩) (by simp)).trans (HF0d.out 1); have f2 := (HBL1.out.frozen (p := ⟨w.heap.size + 1, 2, none⟩) (by simp)).trans (HF0d.out 2); have f3 := (HBL1.out.frozen (p := ⟨w.heap.size + 1, 3, none⟩) (by simp)).trans (HF0d.out 3); clear hbel))
      all_goals
        have HXa := Lib.hid (HX0d.out.below HBL1.out (by omega))
        have HPa := Lib.hid (HP0d.out.below HBL1.out (by omega))
        have HS1 := Lib.hid (box_set (ki := ki) (ex := ex) (Ak := Ak) (Av := Av) (nk := mk) (ck := ck) (nv := mv) (cv := cv) HXa.out _ rfl)
        have HB := Lib.hid (HB1.out.trans (HS1.out.2.2 _ (by omega)))
        have HP2 := Lib.hid (HPa.out.below (HS1.out.2.2 _ (Nat.le_refl _)) (by omega))
        have hsz := Nat.lt_of_lt_of_eq hw1 (HS1.out.2.1).symm
        clear z0 z1 z2 z3 f0 f1 f2 f3
        go_wp2_with fail
        (try go_simp)
        go_meet
        exact ⟨rfl, HB.out, HP2.out, HS1.out.1, hsz⟩
  case rest =>
    obtain ⟨rfl, hbel, hp, hx, hsz⟩ := hcut
    obtain ⟨wA, hwA⟩ : ∃ x, x = wc := ⟨_, rfl⟩
    subst hwA
    have HB2 := Lib.hid hbel
    have HP2 := Lib.hid hp
    have HX2 := Lib.hid hx
    obtain ⟨p0, p1, p2⟩ := hp
    obtain ⟨x0, x1, x2, x3⟩ := hx
    clear hbel HB0d HX0d HP0d HF0d HB0 HX0 HP0 HF0 SH HMM hmc
    go_wp2_with fail
    refine (recEncode_any v s o ki ex k' v' Ak Av mk ck mv cv w.heap.size _ (HT.out _ HB2.out).1 (HT.out _ HB2.out).2 (HK.out _ HB2.out) (HV.out _ HB2.out) HB2.out.size (by omega) (by omega) hs _ HA.out).mono ?_
    rintro e w3 ⟨A3, c3, rfl, hown, hbel⟩
    simp only at hown ⊢
    have HO3 := Lib.hid hown
    have HB3 := Lib.hid (HB2.out.trans (hbel.mono HB2.out.size))
    have HP3 := Lib.hid (HP2.out.below hbel (by omega))
    have HX3 := Lib.hid (HX2.out.below hbel (by omega))
    have hw3 : w.heap.size + 1 < w3.heap.size := Nat.lt_of_lt_of_le hsz hbel.size
    clear hown hbel p0 p1 p2 x0 x1 x2 x3 HB2 HP2 HX2
    rcases HC.out with ⟨hx, rfl⟩ | ⟨rfl, h1, h2⟩
    · clear HC
      go_wp2_with fail
      refine (AW.out _ HB3.out).mono ?_
      rintro e w5 ⟨rfl, hbel⟩
      have HB5 := Lib.hid (HB3.out.trans (hbel.mono HB3.out.size))
      clear hbel
      go_wp2
      go_ret
      exact ⟨rfl, HB5.out⟩
    · clear HC
      rw [h1] at HO3 ⊢
      have HD := Lib.hid h2
      clear h1 h2
      have HO3B : Hid (∀ w', Below w3.heap.size w3 w' → Byt w' w3.heap.size A3 L ra) := fun w' hw => HO3.out.byt.below hw
      have HDEC : Hid (∀ (w' : World) (A : Option Addr) (c : Nat), Below w3.heap.size w3 w' → Own w' w3.heap.size 5 (.slice A (L + mm) c) (L + mm) (ra ++ mo') → Calls Tryd.prog 16 #[.int .i64 v, .int .i64 s, .int .i64 o, .slice A (L + mm) c] w' fun e w'' => (∃ Ak2 ck2 Av2 cv2, e = .returned (.tuple #[.agg #[.int .i64 ki, .slice Ak2 mk ck2, .slice Av2 mv cv2, .int .i64 ex], .int .i64 (L : Int), .bool true]) ∧ Own w'' w'.heap.size 5 (.slice Ak2 mk ck2) mk k' ∧ Own w'' w'.heap.size 5 (.slice Av2 mv cv2) mv v') ∧ Below w'.heap.size w' w'') := fun w' A c hw hown => by
        obtain ⟨_, _, hvv, hc1, hc2⟩ := hown.form
        injection hvv with hv1 hv2 hv3
        subst hv3
        refine (recDecode_any v s o (ra ++ mo') A (L + mm) c w'.heap.size w' (HT.out _ (HB3.out.trans (hw.mono HB3.out.size))).1 (HT.out _ (HB3.out.trans (hw.mono HB3.out.size))).2 hown.byt hc1 hc2 (Nat.le_refl _) hs _ HD.out).mono ?_
        rintro e w'' ⟨Ak2, ck2, Av2, cv2, rfl, hk2, hv2, hbel⟩
        rw [HKL.out.1] at hk2 ⊢
        rw [HKL.out.2] at hv2 ⊢
        exact ⟨⟨Ak2, ck2, Av2, cv2, rfl, hk2, hv2⟩, hbel⟩
      obtain ⟨p0, p1, p2⟩ := HP3.out
      go_upto_region 5 with fail
      go_cut [9, 10, 11] (fun a b c wx => ∃ (g : Nat) (Ak2 Av2 : Option Addr) (ck2 cv2 : Nat), a = .pointer (some ⟨g, 0, none⟩) ∧ b = .int .i64 (L : Int) ∧ c = .bool true ∧ BoxR wx g ki Ak2 mk ck2 Av2 mv cv2 ex ∧ Byt wx wx.heap.size Ak2 mk k' ∧ Byt wx wx.heap.size Av2 mv v' ∧ Below w3.heap.size w3 wx ∧ g < wx.heap.size)
      case first =>
        have hgen : ∀ (u : World) (b j k : Nat) (x : Value), w.heap.size < b → (u.setCell ⟨b, k, none⟩ x).cell? ⟨w.heap.size, j, none⟩ = u.cell? ⟨w.heap.size, j, none⟩ := fun u b j k x hb => World.cell?_setCell_other _ _ _ _ (fun e => by injection e; omega)
        have hq3 : w.heap.size < w3.heap.size := by omega
        go_region_held3 (fun w' => w'.cell? ⟨w.heap.size, 0, none⟩ = some (.int .i64 v) ∧ w'.cell? ⟨w.heap.size, 1, none⟩ = some (.int .i64 s) ∧ w'.cell? ⟨w.heap.size, 2, none⟩ = some (.int .i64 o)) (go_keep) (first
          | (refine step_append_byt rfl Tryd.u8w (.const (.slice none 0 0)) (.tmp 45) rfl rfl (Own.nil _ _ _) rfl (HO3B.out _ (by (repeat (first | with_reducible exact Below.refl _ _ | with_reducible refine Below.drew ?_ | with_reducible refine Below.alloc ?_ (Nat.le_refl _) _)))) ?_ (Nat.le_refl _) ?_; omega; intro A4 c4 w4 hown4 hbel4; simp only [Nat.zero_add, List.nil_append] at hown4 ⊢; have HO4 := Lib.hid hown4; have HL4 := Lib.hid hbel4; have hz4 := hbel4.size; (try simp at hz4); have HD4 : Hid (Below w3.heap.size w3 w4) := Below.trans (by (repeat (first | with_reducible exact Below.refl _ _ | with_reducible refine Below.drew ?_ | with_reducible refine Below.alloc ?_ (Nat.le_refl _) _))) (hbel4.mono (by simp)); obtain ⟨m0, m1, m2⟩ := HP3.out.below HD4.out (by omega); (try (have hbx4 := BoxR.below (w := (w3.alloc (.cells #[.int .i64 0, .slice none 0 0, .slice none 0 0, .int .i64 0] 26)).drew) (BoxR.new w3 26 0 0 none none 0 0 0 0) hbel4 (by simp); have hfx4 : ∀ j, w4.frozen? ⟨w3.heap.size, j, none⟩ = false := fun j => (hbel4.frozen (p := ⟨w3.heap.size, j, none⟩) (by simp)).trans (frozen_of_row (w3.alloc (.cells #[.int .i64 0, .slice none 0 0, .slice none 0 0, .int .i64 0] 26)) _ j _ _ (heap_alloc_new w3 _)); have HBX4 := Lib.hid hbx4; have HFX4 := Lib.hid hfx4; clear hbx4 hfx4)); have hq4 : w.heap.size < w4.heap.size := (by have := HD4.out.size; omega); clear hown4 hbel4)
          | (refine step_append_far rfl Tryd.u8w (.tmp 46) (.tmp 47) rfl rfl (by first | exact HO4.out | exact HO4.out.keep (Below.alloc (Below.refl _ _) (Nat.le_refl _) _)) rfl (HM.out _ (HB3.out.trans ((HD4.out.mono HB3.out.size).trans (by first | exact Below.refl _ _ | exact Below.alloc (Below.refl _ _) (by have := HB3.out.size; have := HD4.out.size; omega) _)))) ?_ (by first | exact HL4.out.size | exact Nat.le_trans HL4.out.size (by simp)) ?_; omega; intro A5 c5 w5 hown5 hgr5; have hfar5 := grown_far hgr5 HO4.out; have hcx5 := fun b o h1 h2 => (hfar5 b o h1 h2).1; have hcy5 := fun b o h1 h2 => (hfar5 b o h1 h2).2; have hbl5 := (Below.refl _ _).grown hgr5 (by first | exact HL4.out.size | exact Nat.le_trans HL4.out.size (by simp)) (fun k hk => HO4.out.ge hk); have hz5 := hgr5.size; (try simp at hz5); (try (have HBX5 := Lib.hid (HBX4.out.below hbl5 (by simp)); have HFX5 : Hid (∀ j, w5.frozen? ⟨w3.heap.size, j, none⟩ = false) := fun j => (hbl5.frozen (p := ⟨w3.heap.size, j, none⟩) (by simp)).trans (HFX4.out j))); (try (have hnw := BoxR.new w4 26 0 0 none none 0 0 0 0; have HBX5 : Hid (BoxR w5 w4.heap.size 0 none 0 0 none 0 0 0) := ⟨(hcx5 _ _ (Nat.le_refl _) (by simp)).trans hnw.1, (hcx5 _ _ (Nat.le_refl _) (by simp)).trans hnw.2.1, (hcx5 _ _ (Nat.le_refl _) (by simp)).trans hnw.2.2.1, (hcx5 _ _ (Nat.le_refl _) (by simp)).trans hnw.2.2.2⟩; have HFX5 : Hid (∀ j, w5.frozen? ⟨w4.heap.size, j, none⟩ = false) := fun j => (hcy5 _ j (Nat.le_refl _) (by simp)).trans (frozen_of_row _ _ j _ _ (heap_alloc_new w4 _)); clear hnw)); have HO5 := Lib.hid hown5; have HD5 : Hid (Below w3.heap.size w3 w5) := HD4.out.trans (Below.trans (by first | exact Below.refl _ _ | exact Below.alloc (Below.refl _ _) HD4.out.size _) (hbl5.mono (by simp))); obtain ⟨n0, n1, n2⟩ := HP3.out.below HD5.out (by omega); have hq5 : w.heap.size < w5.heap.size := (by have := HD5.out.size; omega); (try (have hq35 : w3.heap.size < w5.heap.size := by omega)); clear hown5 hgr5 hfar5 hbl5 hcx5 hcy5)
          | (go_at_call 16; refine (HDEC.out _ A5 c5 (by first | exact HD5.out | exact HD5.out.alloc HD5.out.size _) (by first | exact HO5.out.mono (by simp) | exact (HO5.out.keep (Below.alloc (Below.refl _ _) (Nat.le_refl _) _)).mono (by simp))).mono ?_; rintro e w6 ⟨⟨Ak2, ck2, Av2, cv2, rfl, hk2, hv2⟩, hbel6⟩; have HL6 := Lib.hid hbel6; have HD6 : Hid (Below w3.heap.size w3 w6) := Below.trans (by first | exact HD5.out | exact HD5.out.alloc HD5.out.size _) (hbel6.mono (by first | exact HD5.out.size | (have := HD5.out.size; simp; omega))); obtain ⟨r0, r1, r2⟩ := HP3.out.below HD6.out (by omega); have hz6 := HL6.out.size; (try simp at hz6); (try (have HBX6 := Lib.hid (BoxR.below (w := w5.alloc (.cells #[.int .i64 0, .slice none 0 0, .slice none 0 0, .int .i64 0] 26)) (BoxR.new w5 26 0 0 none none 0 0 0 0) hbel6 (by simp)); have hfx6 : ∀ j, w6.frozen? ⟨w5.heap.size, j, none⟩ = false := fun j => (hbel6.frozen (p := ⟨w5.heap.size, j, none⟩) (by simp)).trans (frozen_of_row _ _ j _ _ (heap_alloc_new w5 _)); have zf0 := hfx6 0; have zf1 := hfx6 1; have zf2 := hfx6 2; have zf3 := hfx6 3; obtain ⟨z0, z1, z2, z3⟩ := HBX6.out; clear hfx6)); (try (have HBX6 := Lib.hid (HBX5.out.below hbel6 (by omega)); have hfx6 := fun j => (hbel6.frozen (p := ⟨w3.heap.size, j, none⟩) (by simp only; omega)).trans (HFX5.out j); have zf0 := hfx6 0; have zf1 := hfx6 1; have zf2 := hfx6 2; have zf3 := hfx6 3; obtain ⟨z0, z1, z2, z3⟩ := HBX6.out; clear hfx6)); (try (have HBX6 := Lib.hid (HBX5.out.below hbel6 (by omega)); have hfx6 := fun j => (hbel6.frozen (p := ⟨w4.heap.size, j, none⟩) (by simp only; omega)).trans (HFX5.out j); have zf0 := hfx6 0; have zf1 := hfx6 1; have zf2 := hfx6 2; have zf3 := hfx6 3; obtain ⟨z0, z1, z2, z3⟩ := HBX6.out; clear hfx6)); have HKx := Lib.hid hk2; have HVx := Lib.hid hv2; clear hk2 hv2 hbel6))
        all_goals
          go_wp2_with fail
          (try go_simp)
          go_meet
          first
            | (refine ⟨w6.heap.size, Ak2, Av2, ck2, cv2, (by with_reducible rfl), rfl, rfl, ?_, ?_, ?_, ?_, ?_⟩
               · exact BoxR.new w6 _ ki ex Ak2 Av2 mk ck2 mv cv2
               · exact (HKx.out.keep (Below.alloc (Below.refl _ _) (Nat.le_refl _) _)).byt
               · exact (HVx.out.keep (Below.alloc (Below.refl _ _) (Nat.le_refl _) _)).byt
               · exact HD6.out.alloc HD6.out.size _
               · simp)
            | (have HS := Lib.hid (box_set (ki := ki) (ex := ex) (Ak := Ak2) (Av := Av2) (nk := mk) (ck := ck2) (nv := mv) (cv := cv2) HBX6.out _ rfl)
               exact ⟨_, Ak2, Av2, ck2, cv2, rfl, rfl, rfl, HS.out.1, (own_set4 HKx.out (by first | (simp; done) | (simp; omega) | omega) _ _ _ _).byt, (own_set4 HVx.out (by first | (simp; done) | (simp; omega) | omega) _ _ _ _).byt, HD6.out.trans (HS.out.2.2 _ (by omega)), by rw [HS.out.2.1]; omega⟩)
      case rest =>
        obtain ⟨g, Ak2, Av2, ck2, cv2, rfl, rfl, rfl, hbx, hkb, hvb, hbel, hg⟩ := hcut
        have HBc := Lib.hid (HB3.out.trans (hbel.mono HB3.out.size))
        have HXc := Lib.hid (HX3.out.below hbel (by omega))
        have HGc := Lib.hid hbx
        have HKc := Lib.hid hkb
        have HVc := Lib.hid hvb
        have hwc : w.heap.size + 1 < wc.heap.size := Nat.lt_of_lt_of_le hw3 hbel.size
        clear hbx hkb hvb hbel p0 p1 p2 HDEC HO3B
        go_wp2_with (first
          | (go_at_call 13; refine (AW.out _ HBc.out).mono ?_; rintro e w5 ⟨rfl, hbel⟩; have HB5 := Lib.hid (HBc.out.trans (hbel.mono HBc.out.size)); have HL5 : Hid (Below wc.heap.size wc w5) := hbel; obtain ⟨x0, x1, x2, x3⟩ := HXc.out.below hbel hwc; clear hbel)
          | (go_at_call 20; (with_reducible refine (LN.out _).mono ?_); rw [hLI]; rintro e w6 ⟨rfl, hbel⟩; have HB6 := Lib.hid (HB5.out.trans (hbel.mono HB5.out.size)); have HL6 : Hid (Below wc.heap.size wc w6) := HL5.out.trans (hbel.mono HL5.out.size); obtain ⟨y0, y1, y2, y3⟩ := HXc.out.below HL6.out hwc; obtain ⟨g0, g1, g2, g3⟩ := HGc.out.below HL6.out hg; clear hbel)
          | (go_at_call 18; refine (refREq_any ki ex ki ex k' v' k' v' Ak2 Av2 Ak Av mk ck2 mv cv2 mk ck mv cv wc.heap.size _ (HKc.out.below HL6.out) (HVc.out.below HL6.out) ((HK.out _ HB6.out).more HBc.out.size) ((HV.out _ HB6.out).more HBc.out.size) HL6.out.size (by omega) (by omega) (by omega) (by omega) true (decide_eq_true ⟨rfl, rfl, rfl, rfl⟩)).mono ?_; rintro e w7 ⟨rfl, hbel⟩; have HB7 := Lib.hid (HB6.out.trans (hbel.mono HB6.out.size)); clear hbel))
        go_ret
        exact ⟨rfl, HB7.out⟩
end Go.Proofs.YtcaliolcmooooaaDoor
