/- The walk of the reference's Encode of records. -/
import Derived.Test.YthgpmnblkhehkaaDoorRecEnc
import Derived.Test.YthgpmnblkhehkaaDoorCrcRef
import Derived.Deep.DeepCutAuto
import Derived.Deep.RegionHeld3
import Derived.Deep.RegionWith
namespace Go.Proofs.YthgpmnblkhehkaaDoor
open Go.RowKit

set_option maxRecDepth 100000 in
set_option maxHeartbeats 4000000 in
theorem refREncode_any (v : Int) (s o ki ex : Nat) (key val : List UInt8) (Ak Av : Option Addr) (nk ck nv cv B : Nat) (w : World) (hv : v = 1 ∨ v = 2) (hk : Byt w B Ak nk key) (hvb : Byt w B Av nv val) (hB : B ≤ w.heap.size) (hkn : nk ≤ 255) (hvn : nv ≤ 65536) (hki : ki ≤ 3) (hex : ex ≤ 1099511627775) (hs : s ≤ 9223372036854775807) (ho : o ≤ 2147483647) (r : List UInt8) (hr : rbytes v s o ki ex key val = r) :
    Calls Tryd.prog 69 #[.int .i64 v, .int .i64 (s : Int), .int .i64 (o : Int), .agg #[.int .i64 (ki : Int), .slice Ak nk ck, .slice Av nv cv, .int .i64 (ex : Int)]] w (PutRes w.heap.size r w) := by
  have hkl := hk.len
  have hvl := hvb.len
  have HK : Hid (∀ w', Below w.heap.size w w' → Byt w' w.heap.size Ak nk key) := fun w' hw => (hk.more hB).below hw
  have HV : Hid (∀ w', Below w.heap.size w w' → Byt w' w.heap.size Av nv val) := fun w' hw => (hvb.more hB).below hw
  have HB0 : Hid (Below w.heap.size w (w.alloc (.cells #[.int .i64 (ki : Int), .slice Ak nk ck, .slice Av nv cv, .int .i64 (ex : Int)] 36))) := (Below.refl _ _).alloc (Nat.le_refl _) _
  have HX0 := Lib.hid (BoxR.new w 36 ki ex Ak Av nk ck nv cv)
  obtain ⟨hd, hhd⟩ : ∃ hd, rhead v ki nk nv ex = hd := ⟨_, rfl⟩
  have hdl : hd.length = 12 := by rw [← hhd]; exact rhead_len _ _ _ _ _
  obtain ⟨bo, hbo⟩ : ∃ bo, key ++ val = bo := ⟨_, rfl⟩
  have hbl : bo.length = nk + nv := by rw [← hbo]; simp [hkl, hvl]
  obtain ⟨al, hal⟩ : ∃ al, rplace s o ++ hd ++ bo = al := ⟨_, rfl⟩
  have hall : al.length = 24 + nk + nv := by rw [← hal]; simp [rplace_len, hdl, hbl]; omega
  obtain ⟨z, hz⟩ : ∃ z, Crc.sum al = z := ⟨_, rfl⟩
  have hz32 : z < 4294967296 := by rw [← hz]; exact Crc.sum_lt _
  have hR : r = hd ++ be 4 z ++ bo := by
    rw [← hr, ← hz, ← hal, ← hhd, ← hbo, ← hkl, ← hvl]
    simp [rbytes, rsum]
  have hh1 : v = 1 → [0xA1, UInt8.ofNat ki, UInt8.ofNat nk, 0] ++ be 4 nv ++ be 4 ex = hd := fun h => by rw [← hhd, rhead, if_pos h]
  have hh2 : v = 2 → [0xA2, UInt8.ofNat nk, UInt8.ofNat (16 * ki)] ++ be 3 nv ++ [0] ++ be 5 ex = hd := fun h => by rw [← hhd, rhead, if_neg (by omega)]
  have hu1 : (UInt8.ofNat ki).toNat = ki := by simp only [UInt8.toNat_ofNat']; omega
  have hu2 : (UInt8.ofNat nk).toNat = nk := by simp only [UInt8.toNat_ofNat']; omega
  have hu3 : (UInt8.ofNat (16 * ki)).toNat = 16 * ki := by simp only [UInt8.toNat_ofNat']; omega
  have HC1 : Hid ((#[.int .u8 161, .int .u8 (ki : Int), .int .u8 (nk : Int), .int .u8 0] : Array Value).toList = bytes [0xA1, UInt8.ofNat ki, UInt8.ofNat nk, 0]) := by
    show _ = _
    simp only [bytes, List.map_cons, List.map_nil, hu1, hu2]
    rfl
  have HC2 : Hid ((#[.int .u8 162, .int .u8 (nk : Int), .int .u8 (16 * (ki : Int))] : Array Value).toList = bytes [0xA2, UInt8.ofNat nk, UInt8.ofNat (16 * ki)]) := by
    show _ = _
    simp only [bytes, List.map_cons, List.map_nil, hu2, hu3]
    simp
  have HH1 := Lib.hid hh1
  have HH2 := Lib.hid hh2
  have HDL := Lib.hid hdl
  have HBO := Lib.hid hbo
  have HBL := Lib.hid hbl
  have HAL := Lib.hid hal
  have HALL := Lib.hid hall
  have HZ := Lib.hid hz
  have HR := Lib.hid hR
  have HV12 := Lib.hid hv
  clear hr hhd hdl hbo hbl hal hall hz hR hh1 hh2 hu1 hu2 hu3 hkl hvl hk hvb hB hv
  go_enter Tryd.func69, Tryd.ntmps69
  have HBx := HB0
  go_upto_if 13 with fail
  go_cut [9] (fun h wx => ∃ (A : Option Addr) (c : Nat), h = .slice A 12 c ∧ Own wx w.heap.size 5 (.slice A 12 c) 12 hd ∧ Below w.heap.size w wx ∧ BoxR wx w.heap.size ki Ak nk ck Av nv cv ex ∧ w.heap.size < wx.heap.size)
  case first =>
    rcases HV12.out with rfl | rfl
    · have hd1 := HH1.out rfl
      go_wp2_with fail
      have HW1 : Hid (Below w.heap.size w ((w.alloc (.cells #[.int .i64 (ki : Int), .slice Ak nk ck, .slice Av nv cv, .int .i64 (ex : Int)] 36)).alloc (.cells #[.int .u8 161, .int .u8 (ki : Int), .int .u8 (nk : Int), .int .u8 0] 5))) := HB0.out.alloc HB0.out.size _
      have HBY : Hid (Byt ((w.alloc (.cells #[.int .i64 (ki : Int), .slice Ak nk ck, .slice Av nv cv, .int .i64 (ex : Int)] 36)).alloc (.cells #[.int .u8 161, .int .u8 (ki : Int), .int .u8 (nk : Int), .int .u8 0] 5)) (w.heap.size + 1 + 1) (some ⟨w.heap.size + 1, 0, none⟩) 4 [0xA1, UInt8.ofNat ki, UInt8.ofNat nk, 0]) := by
        have h := Byt.new (w.alloc (.cells #[.int .i64 (ki : Int), .slice Ak nk ck, .slice Av nv cv, .int .i64 (ex : Int)] 36)) _ 5 (0, 0) [0xA1, UInt8.ofNat ki, UInt8.ofNat nk, 0] HC1.out
        rw [World.size_alloc] at h
        exact h
      have HXL : Hid (BoxR ((w.alloc (.cells #[.int .i64 (ki : Int), .slice Ak nk ck, .slice Av nv cv, .int .i64 (ex : Int)] 36)).alloc (.cells #[.int .u8 161, .int .u8 (ki : Int), .int .u8 (nk : Int), .int .u8 0] 5)) w.heap.size ki Ak nk ck Av nv cv ex) := HX0.out.below (B := w.heap.size + 1) (Below.alloc (Below.refl _ _) (by simp) _) (by omega)
      refine (refPut_any [0xA1, UInt8.ofNat ki, UInt8.ofNat nk, 0] _ 4 _ (w.heap.size + 1 + 1) nv 4 _ HBY.out (by decide) (by simp) (by decide) (by decide)).mono ?_
      rw [show putB [0xA1, UInt8.ofNat ki, UInt8.ofNat nk, 0] nv 4 = [0xA1, UInt8.ofNat ki, UInt8.ofNat nk, 0] ++ be 4 nv from rfl]
      have hpl : ([0xA1, UInt8.ofNat ki, UInt8.ofNat nk, 0] ++ be 4 nv).length = 8 := by simp [be_len]
      rintro e w2 ⟨A2, c2, rfl, hown, hbel⟩
      rw [hpl] at hown ⊢
      have HO2 := Lib.hid hown
      have HB2 := Lib.hid (HW1.out.trans (hbel.mono HW1.out.size))
      have HX2 := Lib.hid (HXL.out.below hbel (by simp; omega))
      have hw2 : w.heap.size < w2.heap.size := Nat.lt_of_lt_of_le (by simp; omega) hbel.size
      obtain ⟨l0, l1, l2, l3⟩ := HX2.out
      clear hown hbel hpl
      go_wp2_with fail
      clear l0 l1 l2 l3
      refine (refPut_any ([0xA1, UInt8.ofNat ki, UInt8.ofNat nk, 0] ++ be 4 nv) _ 8 c2 _ ex 4 w2 HO2.out.byt (by decide) (Nat.le_refl _) (by decide) (by decide)).mono ?_
      rw [show putB ([0xA1, UInt8.ofNat ki, UInt8.ofNat nk, 0] ++ be 4 nv) ex 4 = ([0xA1, UInt8.ofNat ki, UInt8.ofNat nk, 0] ++ be 4 nv) ++ be 4 ex from rfl, hd1]
      rintro e w3 ⟨A3, c3, rfl, hown, hbel⟩
      rw [HDL.out] at hown ⊢
      have HO3 := Lib.hid hown
      have HB3 := Lib.hid (HB2.out.trans (hbel.mono HB2.out.size))
      have HX3 := Lib.hid (HX2.out.below hbel hw2)
      have hw3 : w.heap.size < w3.heap.size := Nat.lt_of_lt_of_le hw2 hbel.size
      clear hown hbel
      go_wp2_with fail
      go_meet
      exact ⟨A3, c3, rfl, HO3.out.mono HB2.out.size, HB3.out, HX3.out, hw3⟩
    · have hd2 := HH2.out rfl
      go_wp2_with fail
      have HW1 : Hid (Below w.heap.size w ((w.alloc (.cells #[.int .i64 (ki : Int), .slice Ak nk ck, .slice Av nv cv, .int .i64 (ex : Int)] 36)).alloc (.cells #[.int .u8 162, .int .u8 (nk : Int), .int .u8 (16 * (ki : Int))] 5))) := HB0.out.alloc HB0.out.size _
      have HBY : Hid (Byt ((w.alloc (.cells #[.int .i64 (ki : Int), .slice Ak nk ck, .slice Av nv cv, .int .i64 (ex : Int)] 36)).alloc (.cells #[.int .u8 162, .int .u8 (nk : Int), .int .u8 (16 * (ki : Int))] 5)) (w.heap.size + 1 + 1) (some ⟨w.heap.size + 1, 0, none⟩) 3 [0xA2, UInt8.ofNat nk, UInt8.ofNat (16 * ki)]) := by
        have h := Byt.new (w.alloc (.cells #[.int .i64 (ki : Int), .slice Ak nk ck, .slice Av nv cv, .int .i64 (ex : Int)] 36)) _ 5 (0, 0) [0xA2, UInt8.ofNat nk, UInt8.ofNat (16 * ki)] HC2.out
        rw [World.size_alloc] at h
        exact h
      have HXL : Hid (BoxR ((w.alloc (.cells #[.int .i64 (ki : Int), .slice Ak nk ck, .slice Av nv cv, .int .i64 (ex : Int)] 36)).alloc (.cells #[.int .u8 162, .int .u8 (nk : Int), .int .u8 (16 * (ki : Int))] 5)) w.heap.size ki Ak nk ck Av nv cv ex) := HX0.out.below (B := w.heap.size + 1) (Below.alloc (Below.refl _ _) (by simp) _) (by omega)
      refine (refPut_any [0xA2, UInt8.ofNat nk, UInt8.ofNat (16 * ki)] _ 3 _ (w.heap.size + 1 + 1) nv 3 _ HBY.out (by decide) (by simp) (by decide) (by decide)).mono ?_
      rw [show putB [0xA2, UInt8.ofNat nk, UInt8.ofNat (16 * ki)] nv 3 = [0xA2, UInt8.ofNat nk, UInt8.ofNat (16 * ki)] ++ be 3 nv from rfl]
      have hpl : ([0xA2, UInt8.ofNat nk, UInt8.ofNat (16 * ki)] ++ be 3 nv).length = 6 := by simp [be_len]
      rintro e w2 ⟨A2, c2, rfl, hown, hbel⟩
      rw [hpl] at hown ⊢
      have HO2 : Hid (Own w2 (w.heap.size + 1) 5 (.slice A2 6 c2) 6 ([0xA2, UInt8.ofNat nk, UInt8.ofNat (16 * ki)] ++ be 3 nv)) := hown.mono (by simp)
      have HB2 := Lib.hid (HW1.out.trans (hbel.mono HW1.out.size))
      have HX2 := Lib.hid (HXL.out.below hbel (by simp; omega))
      have hw2 : w.heap.size < w2.heap.size := Nat.lt_of_lt_of_le (by simp; omega) hbel.size
      obtain ⟨l0, l1, l2, l3⟩ := HX2.out
      clear hown hbel hpl
      go_wp2_with fail
      have hex1 : IntKind.u64.wrap (ex : Int) = (ex : Int) := IntWalk.u64_in _ (by omega)
      have HB2d : Hid (Below w.heap.size w (w2.alloc (.cells #[.int .u8 0] 5))) := HB2.out.alloc HB2.out.size _
      go_region_held3 (fun w' => w'.cell? ⟨w.heap.size, 3, none⟩ = some (.int .i64 (ex : Int))) (go_keep) (first
        | (refine step_append_byt rfl Tryd.u8w (.tmp 48) (.tmp 49) rfl rfl (HO2.out.keep (Below.drew (Below.alloc (Below.refl _ _) (Nat.le_refl _) _))) rfl (Byt.drew (Byt.new w2 #[.int .u8 0] _ (0, 0) [0] rfl)) ?_ ?_ ?_; decide; (simp; omega); intro A3 c3 w3 hown3 hbel3; have HO3 := Lib.hid hown3; have HB3 : Hid (Below w.heap.size w w3) := (Below.drew HB2d.out).trans (hbel3.mono (by omega)); have HX3 : Hid (BoxR w3 w.heap.size ki Ak nk ck Av nv cv ex) := (HX2.out.below (B := w.heap.size + 1) (Below.trans (Below.drew (Below.alloc (Below.refl _ _) (by omega) _)) hbel3) (by omega)); have hw3 : w.heap.size < w3.heap.size := (by have := hbel3.size; simp at this; omega); obtain ⟨n0, n1, n2, n3⟩ := HX3.out; clear hown3 hbel3)
        | (go_at_call 65; refine (refPut_any (([0xA2, UInt8.ofNat nk, UInt8.ofNat (16 * ki)] ++ be 3 nv) ++ [0]) _ (6 + 1) c3 _ ex 5 w3 HO3.out.byt (by decide) (Nat.le_refl _) (by decide) (by decide)).mono ?_; rw [show putB (([0xA2, UInt8.ofNat nk, UInt8.ofNat (16 * ki)] ++ be 3 nv) ++ [0]) ex 5 = (([0xA2, UInt8.ofNat nk, UInt8.ofNat (16 * ki)] ++ be 3 nv) ++ [0]) ++ be 5 ex from rfl, hd2]; rintro e w4 ⟨A4, c4, rfl, hown4, hbel4⟩; rw [HDL.out] at hown4 ⊢; have HO4 := Lib.hid hown4; have HB4 := Lib.hid (HB3.out.trans (hbel4.mono HB3.out.size)); have HX4 := Lib.hid (HX3.out.below hbel4 hw3); have hw4 : w.heap.size < w4.heap.size := Nat.lt_of_lt_of_le hw3 hbel4.size; obtain ⟨m0, m1, m2, m3⟩ := HX4.out; clear hown4 hbel4))
      all_goals go_wp2_with fail
      all_goals (try go_simp)
      all_goals go_meet
      all_goals exact ⟨A4, c4, rfl, HO4.out.mono HB3.out.size, HB4.out, HX4.out, hw4⟩
  case rest =>
    obtain ⟨Ah, ch, rfl, hown, hbel, hbox, hwc⟩ := hcut
    have HOH := Lib.hid hown
    have HBC := Lib.hid hbel
    have HXC := Lib.hid hbox
    obtain ⟨l0, l1, l2, l3⟩ := hbox
    clear hown hbel
    have HHD : Hid (∀ w', Below wc.heap.size wc w' → Byt w' wc.heap.size Ah 12 hd) := fun w' hw => HOH.out.byt.below hw
    go_wp2_with fail
    go_region_held3 (fun w' => w'.cell? ⟨w.heap.size, 1, none⟩ = some (.slice Ak nk ck) ∧ w'.cell? ⟨w.heap.size, 2, none⟩ = some (.slice Av nv cv)) (go_keep) (first
      | (refine step_append_byt rfl Tryd.u8w (.const (.slice none 0 0)) (.tmp 56) rfl rfl (Own.nil _ wc.heap.size _) rfl (HK.out _ (Below.drew HBC.out)) ?_ (Nat.le_refl _) ?_; omega; intro A3 c3 w3 hown3 hbel3; simp only [Nat.zero_add, List.nil_append] at hown3 ⊢; have HO3 := Lib.hid hown3; have HC3 : Hid (Below wc.heap.size wc w3) := (Below.drew (Below.refl _ _)).trans hbel3; have HB3 : Hid (Below w.heap.size w w3) := HBC.out.trans (HC3.out.mono HBC.out.size); obtain ⟨-, n1, n2, -⟩ := HXC.out.below HC3.out hwc; clear hown3 hbel3)
      | (refine step_append_byt rfl Tryd.u8w (.tmp 57) (.tmp 59) rfl rfl HO3.out rfl (HV.out _ HB3.out) ?_ ?_ ?_; omega; exact HC3.out.size; intro A4 c4 w4 hown4 hbel4; rw [HBO.out] at hown4; have HO4 := Lib.hid hown4; have HC4 : Hid (Below wc.heap.size wc w4) := HC3.out.trans hbel4; have HB4 : Hid (Below w.heap.size w w4) := HBC.out.trans (HC4.out.mono HBC.out.size); obtain ⟨-, m1, m2, -⟩ := HXC.out.below HC4.out hwc; clear hown4 hbel4))
    all_goals
      go_wp2_with fail
      refine (refPut_any [] none 0 0 0 s 8 _ (Byt.nil _ _ _) (by decide) (Nat.zero_le _) (by decide) (by decide)).mono ?_
      rw [show putB [] s 8 = be 8 s from rfl]
      rintro e w5 ⟨A5, c5, rfl, hown, hbel⟩
      rw [be_len] at hown ⊢
      have HO5 := Lib.hid hown
      have HD5 : Hid (Below w4.heap.size w4 w5) := hbel
      clear hown hbel
      go_wp2_with fail
      refine (refPut_any (be 8 s) A5 8 c5 w5.heap.size o 4 w5 HO5.out.byt (by decide) (Nat.le_refl _) (by decide) (by decide)).mono ?_
      rw [show putB (be 8 s) o 4 = rplace s o from rfl]
      rintro e w6 ⟨A6, c6, rfl, hown, hbel⟩
      rw [rplace_len] at hown ⊢
      have HO6 : Hid (Own w6 w4.heap.size 5 (.slice A6 12 c6) 12 (rplace s o)) := hown.mono HD5.out.size
      have HD6 : Hid (Below w4.heap.size w4 w6) := HD5.out.trans (hbel.mono HD5.out.size)
      have HC6 : Hid (Below wc.heap.size wc w6) := HC4.out.trans (HD6.out.mono HC4.out.size)
      clear hown hbel
      go_wp2_with (first
        | (at_builtin; refine wpList_append_byt rfl Tryd.u8w (.tmp 67) (.tmp 68) rfl rfl HO6.out rfl (HHD.out _ HC6.out) ?_ ?_ ?_; decide; exact HD6.out.size; intro A7 c7 w7 hown7 hbel7; rw [show 12 + 12 = 24 from rfl] at hown7 ⊢; have HO7 := Lib.hid hown7; have HD7 : Hid (Below w4.heap.size w4 w7) := HD6.out.trans hbel7; clear hown7 hbel7)
        | (at_builtin; refine wpList_append_byt rfl Tryd.u8w (.tmp 69) (.tmp 70) rfl rfl HO7.out rfl (HO4.out.byt.below HD7.out) ?_ ?_ ?_; omega; exact HD7.out.size; intro A8 c8 w8 hown8 hbel8; rw [HAL.out] at hown8; have HO8 := Lib.hid hown8; have HD8 : Hid (Below w4.heap.size w4 w8) := HD7.out.trans hbel8; clear hown8 hbel8))
      have HC8 : Hid (Below wc.heap.size wc w8) := HC4.out.trans (HD8.out.mono HC4.out.size)
      refine (refSum_any al A8 (24 + (nk + nv)) c8 _ w8 HO8.out.byt (by omega)).mono ?_
      rintro e w' ⟨rfl, rfl⟩
      rw [HZ.out]
      go_wp2_with fail
      refine (refPut_any hd Ah 12 ch wc.heap.size z 4 _ (HHD.out _ HC8.out) (by decide) HC8.out.size (by decide) (by decide)).mono ?_
      rw [show putB hd z 4 = hd ++ be 4 z from rfl]
      have hpl : (hd ++ be 4 z).length = 16 := by rw [List.length_append, be_len, HDL.out]
      rintro e w9 ⟨A9, c9, rfl, hown, hbel⟩
      rw [hpl] at hown ⊢
      have HO9 := Lib.hid hown
      have HD9 : Hid (Below w4.heap.size w4 w9) := HD8.out.trans (hbel.mono HD8.out.size)
      have hz9 : w4.heap.size ≤ w8.heap.size ∧ w8.heap.size ≤ w9.heap.size := ⟨HD8.out.size, hbel.size⟩
      clear hown hbel hpl
      go_wp2_with (at_builtin; refine wpList_append_byt rfl Tryd.u8w (.tmp 76) (.tmp 77) rfl rfl HO9.out rfl (HO4.out.byt.below HD9.out) ?_ ?_ ?_; omega; exact hz9.2; intro A10 c10 w10 hown10 hbel10; rw [← HR.out] at hown10; have HO10 := Lib.hid hown10; have HD10 : Hid (Below w4.heap.size w4 w10) := HD9.out.trans (hbel10.mono hz9.1); clear hown10 hbel10)
      go_ret
      have hl := HO10.out.len
      exact ⟨A10, c10, by rw [hl]; rfl, by rw [hl]; exact HO10.out.mono (Nat.le_trans HB4.out.size hz9.1), HB4.out.trans (HD10.out.mono HB4.out.size)⟩
end Go.Proofs.YthgpmnblkhehkaaDoor
