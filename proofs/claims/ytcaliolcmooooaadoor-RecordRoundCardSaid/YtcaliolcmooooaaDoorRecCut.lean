/- The walk of the law RecordCut. -/
import Derived.Test.YtcaliolcmooooaaDoorRecEq
import Derived.Deep.RegionHeld3
namespace Go.Proofs.YtcaliolcmooooaaDoor
open Go.RowKit

/-- A block of a place. -/
def BoxP (w : World) (g : Nat) (a b c : Int) : Prop := w.cell? ⟨g, 0, none⟩ = some (.int .i64 a) ∧ w.cell? ⟨g, 1, none⟩ = some (.int .i64 b) ∧ w.cell? ⟨g, 2, none⟩ = some (.int .i64 c)
theorem BoxP.below {w w' : World} {g B : Nat} {a b c : Int} (h : BoxP w g a b c) (hb : Below B w w') (hg : g < B) : BoxP w' g a b c :=
  ⟨(hb.cell (by exact hg)).trans h.1, (hb.cell (by exact hg)).trans h.2.1, (hb.cell (by exact hg)).trans h.2.2⟩
theorem BoxP.new (w : World) (ty : TypeId) (a b c : Int) : BoxP (w.alloc (.cells #[.int .i64 a, .int .i64 b, .int .i64 c] ty)) w.heap.size a b c :=
  ⟨cell_of_row _ _ _ _ _ _ (heap_alloc_new w _), cell_of_row _ _ _ _ _ _ (heap_alloc_new w _), cell_of_row _ _ _ _ _ _ (heap_alloc_new w _)⟩

theorem cut_pos (n : Int) (L : Nat) (hL : 0 < L) : -(L : Int) < n.tmod L ∧ n.tmod L < L ∧ ∃ q : Nat, q < L ∧ (n.tmod L + L).tmod L = (q : Int) ∧ (n.tmod L + L) % L = (q : Int) := by
  have h2 : n.tmod (L : Int) < L := Int.tmod_lt_of_pos n (by omega)
  have h3 : -(L : Int) < n.tmod L := Int.lt_tmod_of_pos n (by omega)
  have h4 : 0 ≤ n.tmod L + L := by omega
  have h5 : (n.tmod L + L).tmod L = (n.tmod L + L) % L := Int.tmod_eq_emod_of_nonneg h4
  have h6 : 0 ≤ (n.tmod L + L) % L := Int.emod_nonneg _ (by omega)
  have h7 : (n.tmod L + L) % L < L := Int.emod_lt_of_pos _ (by omega)
  exact ⟨h3, h2, ((n.tmod L + L) % L).toNat, by omega, by omega, by omega⟩

set_option maxRecDepth 100000 in
set_option maxHeartbeats 4000000 in
theorem recordCut_any (v s o ki ex n : Int) (key val : List UInt8) (Ak Av : Option Addr) (nk ck nv cv : Nat) (w : World) (ht : TabAt w) (h0 : 0 < w.heap.size) (hkb : Byt w w.heap.size Ak nk key) (hvb : Byt w w.heap.size Av nv val) (hk : nk ≤ ck) (hv : nv ≤ cv) (hck : ck ≤ 9223372036854775807) (hcv : cv ≤ 9223372036854775807) (hs : s ≤ 9223372036854775807) :
    Calls Tryd.prog 5 #[.agg #[.int .i64 v, .int .i64 s, .int .i64 o], .agg #[.int .i64 ki, .slice Ak nk ck, .slice Av nv cv, .int .i64 ex], .int .i64 n] w fun e w' => e = .returned (.bool true) ∧ Below w.heap.size w w' := by
  have HT : Hid (∀ w', Below w.heap.size w w' → TabAt w' ∧ 0 < w'.heap.size) := fun w' hw => ⟨ht.below hw h0, Nat.lt_of_lt_of_le h0 hw.size⟩
  obtain ⟨mk, hmk⟩ : ∃ mk, (nk ≤ 260 ∧ mk = nk) ∨ (260 < nk ∧ mk = 260) := by
    by_cases h : nk ≤ 260
    · exact ⟨nk, .inl ⟨h, rfl⟩⟩
    · exact ⟨260, .inr ⟨by omega, rfl⟩⟩
  obtain ⟨mv, hmv⟩ : ∃ mv, (nv ≤ 200 ∧ mv = nv) ∨ (200 < nv ∧ mv = 200) := by
    by_cases h : nv ≤ 200
    · exact ⟨nv, .inl ⟨h, rfl⟩⟩
    · exact ⟨200, .inr ⟨by omega, rfl⟩⟩
  have HK : Hid (∀ w', Below w.heap.size w w' → Byt w' w.heap.size Ak mk (key.take mk)) := fun w' hw => (hkb.take (by omega)).below hw
  have HV : Hid (∀ w', Below w.heap.size w w' → Byt w' w.heap.size Av mv (val.take mv)) := fun w' hw => (hvb.take (by omega)).below hw
  have hkl := (HK.out w (Below.refl _ _)).len
  have hvl := (HV.out w (Below.refl _ _)).len
  obtain ⟨k', hk'⟩ : ∃ k', key.take mk = k' := ⟨_, rfl⟩
  obtain ⟨v', hv'⟩ : ∃ v', val.take mv = v' := ⟨_, rfl⟩
  rw [hk'] at HK hkl
  rw [hv'] at HV hvl
  have SH := Lib.hid (short_any ki ex Ak Av nk ck nv cv mk mv hk hv hck hcv hmk hmv)
  obtain ⟨⟨ra, x⟩, ha⟩ : ∃ r, rencS v s o ki ex k' v' = r := ⟨_, rfl⟩
  have hmk1 : mk ≤ 260 := by omega
  have hmv1 : mv ≤ 200 := by omega
  have hC : ¬ x = 0 ∨ (x = 0 ∧ ra.length = 16 + mk + mv ∧ ∀ q, q < 16 + mk + mv → rdec v s o (ra.take q) = none) := by
    by_cases hx : x = 0
    · right
      have hx2 : (rencS v s o ki ex k' v').2 = 0 := by rw [ha]; exact hx
      obtain ⟨_, _, _, _, he⟩ := rencS_ok hx2
      rw [ha] at he
      injection he with he _
      refine ⟨hx, by rw [he, rbytes_len, hkl, hvl], fun q hq => ?_⟩
      have := rdec_cut hx2 q (by rw [hkl, hvl]; exact hq)
      rwa [ha] at this
    · exact .inl hx
  have HA := Lib.hid ha
  have HC := Lib.hid hC
  have HB0 : Hid (Below w.heap.size w ((w.alloc (.cells #[.int .i64 v, .int .i64 s, .int .i64 o] 23)).alloc (.cells #[.int .i64 ki, .slice Ak nk ck, .slice Av nv cv, .int .i64 ex] 26))) := Below.alloc (Below.alloc (Below.refl _ _) (Nat.le_refl _) _) (by simp) _
  have HP0 : Hid (BoxP ((w.alloc (.cells #[.int .i64 v, .int .i64 s, .int .i64 o] 23)).alloc (.cells #[.int .i64 ki, .slice Ak nk ck, .slice Av nv cv, .int .i64 ex] 26)) w.heap.size v s o) :=
    (BoxP.new w 23 v s o).below (B := w.heap.size + 1) (Below.alloc (Below.refl _ _) (by simp) _) (by omega)
  have HX0 : Hid (BoxR ((w.alloc (.cells #[.int .i64 v, .int .i64 s, .int .i64 o] 23)).alloc (.cells #[.int .i64 ki, .slice Ak nk ck, .slice Av nv cv, .int .i64 ex] 26)) (w.heap.size + 1) ki Ak nk ck Av nv cv ex) := by
    have h := BoxR.new (w.alloc (.cells #[.int .i64 v, .int .i64 s, .int .i64 o] 23)) 26 ki ex Ak Av nk ck nv cv
    rwa [World.size_alloc] at h
  have HF0 : Hid (∀ j, ((w.alloc (.cells #[.int .i64 v, .int .i64 s, .int .i64 o] 23)).alloc (.cells #[.int .i64 ki, .slice Ak nk ck, .slice Av nv cv, .int .i64 ex] 26)).frozen? ⟨w.heap.size + 1, j, none⟩ = false) := fun j => by
    have h := frozen_of_row _ _ j _ _ (heap_alloc_new (w.alloc (.cells #[.int .i64 v, .int .i64 s, .int .i64 o] 23)) (.cells #[.int .i64 ki, .slice Ak nk ck, .slice Av nv cv, .int .i64 ex] 26))
    rwa [World.size_alloc] at h
  clear ha hC hk' hv' hkl hvl hkb hvb ht h0 hmk hmv hk hv hck hcv
  go_enter Tryd.func5, Tryd.ntmps5
  go_wp2_with fail
  refine (SH.out _).mono ?_
  rintro e w1 ⟨rfl, hbel⟩
  have HB1 : Hid (Below w.heap.size w w1) := HB0.out.trans (hbel.mono HB0.out.size)
  have HX1 : Hid (BoxR w1 (w.heap.size + 1) ki Ak nk ck Av nv cv ex) := HX0.out.below (B := w.heap.size + 1 + 1) (hbel.mono (by simp)) (by omega)
  have HP1 : Hid (BoxP w1 w.heap.size v s o) := HP0.out.below (B := w.heap.size + 1 + 1) (hbel.mono (by simp)) (by omega)
  have hw1 : w.heap.size + 1 < w1.heap.size := by have := hbel.size; simp at this; omega
  have hfz : ∀ j, w1.frozen? ⟨w.heap.size + 1, j, none⟩ = false := fun j => (hbel.frozen (p := ⟨w.heap.size + 1, j, none⟩) (by simp)).trans (HF0.out j)
  have f0 := hfz 0
  have f1 := hfz 1
  have f2 := hfz 2
  have f3 := hfz 3
  obtain ⟨l0, l1, l2, l3⟩ := HX1.out
  obtain ⟨p0, p1, p2⟩ := HP1.out
  clear hbel hfz
  go_wp2_with fail
  have HS1 := Lib.hid (box_set (ki := ki) (ex := ex) (Ak := Ak) (Av := Av) (nk := mk) (ck := ck) (nv := mv) (cv := cv) HX1.out _ rfl)
  have HB2 := Lib.hid (HB1.out.trans (HS1.out.2.2 _ (by omega)))
  have HP2 := Lib.hid (HP1.out.below (HS1.out.2.2 (w.heap.size + 1) (Nat.le_refl _)) (by omega))
  refine (recEncode_any v s o ki ex k' v' Ak Av mk ck mv cv w.heap.size _ (HT.out _ HB2.out).1 (HT.out _ HB2.out).2 (HK.out _ HB2.out) (HV.out _ HB2.out) HB2.out.size (by omega) (by omega) hs _ HA.out).mono ?_
  rintro e w3 ⟨A3, c3, rfl, hown, hbel⟩
  have hsz : w1.heap.size ≤ w3.heap.size := by have := hbel.size; rw [HS1.out.2.1] at this; exact this
  have HP3 := Lib.hid (HP2.out.below hbel (by rw [HS1.out.2.1]; omega))
  have HB3 := Lib.hid (HB2.out.trans (hbel.mono HB2.out.size))
  simp only at hown ⊢
  have HO3 := Lib.hid hown
  clear hown hbel l0 l1 l2 l3 f0 f1 f2 f3 p0 p1 p2
  obtain ⟨p0, p1, p2⟩ := HP3.out
  rcases HC.out with hx | ⟨rfl, h1, h2⟩
  · clear HC
    go_wp2_with fail
    refine (recAwake_any w3 (HT.out _ HB3.out).1 (HT.out _ HB3.out).2).mono ?_
    rintro e w5 ⟨rfl, hbel⟩
    have HB5 := Lib.hid (HB3.out.trans (hbel.mono HB3.out.size))
    clear hbel
    go_wp2
    go_ret
    exact ⟨rfl, HB5.out⟩
  · obtain ⟨L, hL⟩ : ∃ L, 16 + mk + mv = L := ⟨_, rfl⟩
    rw [h1, hL] at HO3 ⊢
    rw [hL] at h2
    have hL0 : 0 < L := by omega
    have hL1 : L ≤ 476 := by omega
    have hL2 : ¬ (L : Int) = 0 := by omega
    have hL3 : ((L : Int) == 0) = false := by simp only [beq_eq_false_iff_ne]; omega
    obtain ⟨t1, t2, q, hq, hq1, hq2⟩ := cut_pos n L hL0
    have HD := Lib.hid (h2 q hq)
    clear HC h1 h2
    go_wp2_with fail
    obtain ⟨_, _, hvv, hc1, hc2⟩ := HO3.out.form
    injection hvv with hv1 hv2 hv3
    subst hv3
    have hqc : q ≤ c3 := by omega
    have hqi : (q : Int) ≤ (c3 : Int) := by omega
    have hqn : (0 : Int) ≤ (q : Int) := by omega
    have hw3 : w.heap.size + 1 < w3.heap.size := by omega
    have HDEC : Hid (∀ w', Below w3.heap.size w3 w' → Calls Tryd.prog 16 #[.int .i64 v, .int .i64 s, .int .i64 o, .slice A3 q c3] w' fun e w'' => (e = .returned (.tuple #[.agg #[.int .i64 0, .slice none 0 0, .slice none 0 0, .int .i64 0], .int .i64 0, .bool false]) ∧ Below w'.heap.size w' w'') ∧ Below w3.heap.size w3 w'') := fun w' hw =>
      (recDecode_any v s o (ra.take q) A3 q c3 w3.heap.size w' (HT.out _ (HB3.out.trans (hw.mono HB3.out.size))).1 (HT.out _ (HB3.out.trans (hw.mono HB3.out.size))).2 ((HO3.out.byt.take (by omega)).below hw) hqc hc2 hw.size hs none HD.out).mono fun e w'' h => ⟨h, hw.trans (h.2.mono hw.size)⟩
    have HZ := Lib.hid (fun w' (hw : Below w.heap.size w w') => refREq_any 0 0 0 0 [] [] [] [] none none none none 0 0 0 0 0 0 0 0 w.heap.size w' (Byt.nil _ _ _) (Byt.nil _ _ _) (Byt.nil _ _ _) (Byt.nil _ _ _) hw.size (by decide) (by decide) (by decide) (by decide) true (by decide))
    have hgen : ∀ (u : World) (j k : Nat) (x : Value), (u.setCell ⟨w3.heap.size, k, none⟩ x).cell? ⟨w.heap.size, j, none⟩ = u.cell? ⟨w.heap.size, j, none⟩ := fun u j k x => World.cell?_setCell_other _ _ _ _ (fun e => by injection e; omega)
    clear hv1 hv2 t1 t2 hq1 hq2
    go_region_held3 (fun w' => w'.cell? ⟨w.heap.size, 0, none⟩ = some (.int .i64 v) ∧ w'.cell? ⟨w.heap.size, 1, none⟩ = some (.int .i64 s) ∧ w'.cell? ⟨w.heap.size, 2, none⟩ = some (.int .i64 o)) (go_keep) (first
      | (go_at_call 16; refine (HDEC.out _ ?_).mono ?_; (repeat (first | with_reducible exact Below.refl _ _ | with_reducible refine Below.drew ?_ | with_reducible refine Below.alloc ?_ (Nat.le_refl _) _)); rintro e w5 ⟨⟨rfl, hbel⟩, hbel3⟩; have HB5 : Hid (Below w.heap.size w w5) := HB3.out.trans (hbel3.mono HB3.out.size); obtain ⟨p0, p1, p2⟩ := HP3.out.below hbel3 (by omega); obtain ⟨hcc, hcf⟩ := cells_of_below hbel; have hz5 := hbel.size; simp at hz5; have HBL := Lib.hid hbel; clear hbel hbel3))
    · go_wp2_with fail
      have HB6 := Lib.hid (HB5.out.alloc HB5.out.size (.cells #[.int .i64 0, .slice none 0 0, .slice none 0 0, .int .i64 0] 26))
      have HXR := Lib.hid (BoxR.new w5 26 0 0 none none 0 0 0 0)
      clear hcc hcf HBL
      refine (recAwake_any _ (HT.out _ HB6.out).1 (HT.out _ HB6.out).2).mono ?_
      rintro e w7 ⟨rfl, hbel⟩
      have HB7 := Lib.hid (HB6.out.trans (hbel.mono HB6.out.size))
      obtain ⟨l0, l1, l2, l3⟩ := HXR.out.below hbel (by simp)
      clear hbel
      go_wp2_with fail
      refine (HZ.out _ HB7.out).mono ?_
      rintro e w8 ⟨rfl, hbel⟩
      have HB8 := Lib.hid (HB7.out.trans (hbel.mono HB7.out.size))
      clear hbel
      go_wp2
      go_ret
      exact ⟨rfl, HB8.out⟩
    · have HX5 : Hid (BoxR w5 w3.heap.size 0 none 0 0 none 0 0 0) := BoxR.below (w := (w3.alloc (.cells #[.int .i64 0, .slice none 0 0, .slice none 0 0, .int .i64 0] 26)).drew) (BoxR.new w3 26 0 0 none none 0 0 0 0) HBL.out (by simp)
      go_wp2_with fail
      have HST := Lib.hid (box_set (ki := 0) (ex := 0) (Ak := none) (Av := none) (nk := 0) (ck := 0) (nv := 0) (cv := 0) HX5.out _ rfl)
      have HB6 := Lib.hid (HB5.out.trans (HST.out.2.2 _ (by omega)))
      have HXR := Lib.hid HST.out.1
      clear hcc hcf HBL
      refine (recAwake_any _ (HT.out _ HB6.out).1 (HT.out _ HB6.out).2).mono ?_
      rintro e w7 ⟨rfl, hbel⟩
      have HB7 := Lib.hid (HB6.out.trans (hbel.mono HB6.out.size))
      obtain ⟨l0, l1, l2, l3⟩ := HXR.out.below hbel (by rw [HST.out.2.1]; omega)
      clear hbel
      go_wp2_with fail
      refine (HZ.out _ HB7.out).mono ?_
      rintro e w8 ⟨rfl, hbel⟩
      have HB8 := Lib.hid (HB7.out.trans (hbel.mono HB7.out.size))
      clear hbel
      go_wp2
      go_ret
      exact ⟨rfl, HB8.out⟩
end Go.Proofs.YtcaliolcmooooaaDoor
