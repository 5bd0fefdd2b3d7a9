/- The walk of the reference's Encode of superblocks (tools/mksuprenc.py). -/
import Derived.Test.YthjnbdbbeidhgaaDoorSupEnc
namespace Go.Proofs.YthjnbdbbeidhgaaDoor
open Go.RowKit

set_option maxRecDepth 100000 in
set_option maxHeartbeats 16000000 in
theorem srencode_any (g p m t n a1 b1 c1 d1 a2 b2 c2 d2 : Int) (sn : Nat) (fs : List Ly) (A : Option Addr) (k c B : Nat) (w : World) (hx : LAt w B A k fs) (hkc : k ≤ c) (hB : B ≤ w.heap.size) (hv : svalid ⟨g, p, m, t, n, ⟨a1, b1, c1, d1⟩, ⟨a2, b2, c2, d2⟩, fs⟩ = true) (hsn : sn < 1048576) (r : List UInt8) (hr : frame 3 0 sn (sbytes ⟨g, p, m, t, n, ⟨a1, b1, c1, d1⟩, ⟨a2, b2, c2, d2⟩, fs⟩) = r) :
    Calls Tryd.prog 23 #[.agg #[.int .i64 g, .int .i64 p, .int .i64 m, .int .i64 t, .int .i64 n, .int .i64 a1, .int .i64 b1, .int .i64 c1, .int .i64 d1, .int .i64 a2, .int .i64 b2, .int .i64 c2, .int .i64 d2, .slice A k c], .int .i64 (sn : Int)] w (PutRes w.heap.size r w) := by
  have HL : Hid (∀ w', Below w.heap.size w w' → LAt w' w.heap.size A k fs) := fun w' hb => (hx.more hB).below hb
  obtain ⟨gn, mn, tn, nn, x, rfl, rfl, rfl, rfl, rfl, hg, hm, ht, hn, hT, hH, hfs⟩ := snats hv
  have hlen := hx.1
  obtain ⟨b6, hb6⟩ : ∃ l, be 5 gn ++ [x] = l := ⟨_, rfl⟩
  have lb6 : b6.length = 6 := by rw [← hb6]; simp [be_len]
  obtain ⟨b10, hb10⟩ : ∃ l, b6 ++ be 4 mn = l := ⟨_, rfl⟩
  have lb10 : b10.length = 10 := by rw [← hb10]; simp [be_len, lb6]
  obtain ⟨b16, hb16⟩ : ∃ l, b10 ++ be 6 tn = l := ⟨_, rfl⟩
  have lb16 : b16.length = 16 := by rw [← hb16]; simp [be_len, lb10]
  obtain ⟨b21, hb21⟩ : ∃ l, b16 ++ be 5 nn = l := ⟨_, rfl⟩
  have lb21 : b21.length = 21 := by rw [← hb21]; simp [be_len, lb16]
  obtain ⟨b28, hb28⟩ : ∃ l, b21 ++ lbytes a1 b1 c1 d1 = l := ⟨_, rfl⟩
  have lb28 : b28.length = 28 := by rw [← hb28]; simp [lbytes_len, lb21]
  obtain ⟨b35, hb35⟩ : ∃ l, b28 ++ lbytes a2 b2 c2 d2 = l := ⟨_, rfl⟩
  have lb35 : b35.length = 35 := by rw [← hb35]; simp [lbytes_len, lb28]
  obtain ⟨b36, hb36⟩ : ∃ l, b35 ++ [UInt8.ofNat k] = l := ⟨_, rfl⟩
  have lb36 : b36.length = 36 := by rw [← hb36]; simp [lb35]
  have hsb := sbytes_parts gn mn tn nn k x ⟨a1, b1, c1, d1⟩ ⟨a2, b2, c2, d2⟩ fs hlen
  simp only [Ly.lb, hb6, hb10, hb16, hb21, hb28, hb35, hb36] at hsb
  have HEN := Lib.hid hr
  rw [hsb] at HEN
  have PUT0 : Hid (∀ wx, Calls Tryd.prog 41 #[.slice none 0 0, .int .u64 (gn : Int), .int .i64 5] wx fun e w' => ∃ A' c', e = .returned (.slice A' 5 c') ∧ Own w' wx.heap.size 5 (.slice A' 5 c') 5 (be 5 gn) ∧ Below wx.heap.size wx w') := fun wx => by
    refine (refPut_any [] none 0 0 0 gn 5 wx (Byt.nil _ _ _) (by decide) (Nat.zero_le _) (by decide) (by decide)).mono ?_
    have hpl : (putB [] gn 5).length = 5 := by simp [putB, be_len]
    rintro e w' ⟨A', c', rfl, h1, h2⟩
    rw [hpl] at h1 ⊢
    exact ⟨A', c', rfl, h1, h2⟩
  have PUT4 : Hid (∀ (wx : World) (A1 : Option Addr) (q1 : Nat), Byt wx wx.heap.size A1 6 b6 → Calls Tryd.prog 41 #[.slice A1 6 q1, .int .u64 (mn : Int), .int .i64 4] wx fun e w' => ∃ A' c', e = .returned (.slice A' 10 c') ∧ Own w' wx.heap.size 5 (.slice A' 10 c') 10 b10 ∧ Below wx.heap.size wx w') := fun wx A1 q1 hb => by
    refine (refPut_any b6 A1 6 q1 wx.heap.size mn 4 wx hb (by decide) (Nat.le_refl _) (by decide) (by decide)).mono ?_
    rw [show putB b6 mn 4 = b10 from hb10]
    rintro e w' ⟨A', c', rfl, h1, h2⟩
    rw [lb10] at h1 ⊢
    exact ⟨A', c', rfl, h1, h2⟩
  have PUT6 : Hid (∀ (wx : World) (A1 : Option Addr) (q1 : Nat), Byt wx wx.heap.size A1 10 b10 → Calls Tryd.prog 41 #[.slice A1 10 q1, .int .u64 (tn : Int), .int .i64 6] wx fun e w' => ∃ A' c', e = .returned (.slice A' 16 c') ∧ Own w' wx.heap.size 5 (.slice A' 16 c') 16 b16 ∧ Below wx.heap.size wx w') := fun wx A1 q1 hb => by
    refine (refPut_any b10 A1 10 q1 wx.heap.size tn 6 wx hb (by decide) (Nat.le_refl _) (by decide) (by decide)).mono ?_
    rw [show putB b10 tn 6 = b16 from hb16]
    rintro e w' ⟨A', c', rfl, h1, h2⟩
    rw [lb16] at h1 ⊢
    exact ⟨A', c', rfl, h1, h2⟩
  have PUT5 : Hid (∀ (wx : World) (A1 : Option Addr) (q1 : Nat), Byt wx wx.heap.size A1 16 b16 → Calls Tryd.prog 41 #[.slice A1 16 q1, .int .u64 (nn : Int), .int .i64 5] wx fun e w' => ∃ A' c', e = .returned (.slice A' 21 c') ∧ Own w' wx.heap.size 5 (.slice A' 21 c') 21 b21 ∧ Below wx.heap.size wx w') := fun wx A1 q1 hb => by
    refine (refPut_any b16 A1 16 q1 wx.heap.size nn 5 wx hb (by decide) (Nat.le_refl _) (by decide) (by decide)).mono ?_
    rw [show putB b16 nn 5 = b21 from hb21]
    rintro e w' ⟨A', c', rfl, h1, h2⟩
    rw [lb21] at h1 ⊢
    exact ⟨A', c', rfl, h1, h2⟩
  have LAY1 : Hid (∀ (wx : World) (A1 : Option Addr) (q1 B : Nat), Byt wx B A1 21 b21 → B ≤ wx.heap.size → Calls Tryd.prog 48 #[.slice A1 21 q1, .agg #[.int .i64 a1, .int .i64 b1, .int .i64 c1, .int .i64 d1]] wx fun e w' => ∃ A' c', e = .returned (.slice A' 28 c') ∧ Own w' wx.heap.size 5 (.slice A' 28 c') 28 b28 ∧ Below wx.heap.size wx w') := fun wx A1 q1 B hb hB => by
    refine (rput_any a1 b1 c1 d1 b21 A1 21 q1 B wx hT hb (by decide) hB).mono ?_
    rw [show b21 ++ lbytes a1 b1 c1 d1 = b28 from hb28]
    rintro e w' ⟨A', c', rfl, h1, h2⟩
    rw [lb28] at h1 ⊢
    exact ⟨A', c', rfl, h1, h2⟩
  have LAY2 : Hid (∀ (wx : World) (A1 : Option Addr) (q1 B : Nat), Byt wx B A1 28 b28 → B ≤ wx.heap.size → Calls Tryd.prog 48 #[.slice A1 28 q1, .agg #[.int .i64 a2, .int .i64 b2, .int .i64 c2, .int .i64 d2]] wx fun e w' => ∃ A' c', e = .returned (.slice A' 35 c') ∧ Own w' wx.heap.size 5 (.slice A' 35 c') 35 b35 ∧ Below wx.heap.size wx w') := fun wx A1 q1 B hb hB => by
    refine (rput_any a2 b2 c2 d2 b28 A1 28 q1 B wx hH hb (by decide) hB).mono ?_
    rw [show b28 ++ lbytes a2 b2 c2 d2 = b35 from hb35]
    rintro e w' ⟨A', c', rfl, h1, h2⟩
    rw [lb35] at h1 ⊢
    exact ⟨A', c', rfl, h1, h2⟩
  have HB0 : Hid (Below w.heap.size w (w.alloc (.cells #[.int .i64 (gn : Int), .int .i64 (x.toNat : Int), .int .i64 (mn : Int), .int .i64 (tn : Int), .int .i64 (nn : Int), .int .i64 a1, .int .i64 b1, .int .i64 c1, .int .i64 d1, .int .i64 a2, .int .i64 b2, .int .i64 c2, .int .i64 d2, .slice A k c] 41))) := (Below.refl _ _).alloc (Nat.le_refl _) _
  have HX0 := Lib.hid (Cells.new w 41 #[.int .i64 (gn : Int), .int .i64 (x.toNat : Int), .int .i64 (mn : Int), .int .i64 (tn : Int), .int .i64 (nn : Int), .int .i64 a1, .int .i64 b1, .int .i64 c1, .int .i64 d1, .int .i64 a2, .int .i64 b2, .int .i64 c2, .int .i64 d2, .slice A k c])
  have HB6 := Lib.hid hb6
  have HB10 := Lib.hid hb10
  have HB36 := Lib.hid hb36
  have LB36 := Lib.hid lb36
  have HFS := Lib.hid hfs
  have HLEN := Lib.hid hlen
  have hxl := x.toNat_lt
  have hk2 : k ≤ 2 := by
    rcases hfs with ⟨h, _⟩ | ⟨F, _, h, _⟩
    · omega
    · rw [h] at hlen; simp at hlen; omega
  have wx : IntKind.u8.wrap (x.toNat : Int) = (x.toNat : Int) := IntWalk.u8_in _ (by omega)
  have wk : IntKind.u8.wrap (k : Int) = (k : Int) := IntWalk.u8_in _ (by omega)
  have wg : IntKind.u64.wrap (gn : Int) = (gn : Int) := IntWalk.u64_in _ (by omega)
  have wm : IntKind.u64.wrap (mn : Int) = (mn : Int) := IntWalk.u64_in _ (by omega)
  have wt : IntKind.u64.wrap (tn : Int) = (tn : Int) := IntWalk.u64_in _ (by omega)
  have wn : IntKind.u64.wrap (nn : Int) = (nn : Int) := IntWalk.u64_in _ (by omega)
  have KU : Hid ((UInt8.ofNat k).toNat = k) := u8_of (by omega)
  have HNX : Hid (∀ w : World, Byt (w.alloc (.cells #[.int .u8 (x.toNat : Int)] 5)) (w.heap.size + 1) (some ⟨w.heap.size, 0, none⟩) 1 [x]) := fun w => Byt.new w _ _ (0, 0) [x] rfl
  have HNL : Hid (∀ w : World, Byt (w.alloc (.cells #[.int .u8 (k : Int)] 5)) (w.heap.size + 1) (some ⟨w.heap.size, 0, none⟩) 1 [UInt8.ofNat k]) := fun w => Byt.new w _ _ (0, 0) _ (by rw [show bytes [UInt8.ofNat k] = [Value.int .u8 ((UInt8.ofNat k).toNat : Int)] from rfl, KU.out])
  have z0 := HX0.out 0 _ rfl
  clear hv hr hx hB hsb hfs hlen hT hH hb6 hb10 hb16 hb21 hb28 hb35 hb36 lb6 lb10 lb16 lb21 lb28 lb35 lb36
  go_enter Tryd.func23, Tryd.ntmps23
  go_upto_region 2 with (go_at_call 41; refine (PUT0.out _).mono ?_; rintro e w1 ⟨A1, q1, rfl, hown, hbel⟩; have HO1 : Hid (Own w1 (w.heap.size + 1) 5 (.slice A1 5 q1) 5 (be 5 gn)) := hown.mono (by simp); have HB1 : Hid (Below w.heap.size w w1) := HB0.out.trans (hbel.mono HB0.out.size); have HX1 := Lib.hid (HX0.out.below hbel (by simp)); have hw1 : w.heap.size < w1.heap.size := (by have := hbel.size; simp at this; omega); have z1 := HX1.out 1 _ rfl; have z2 := HX1.out 2 _ rfl; clear hown hbel)
  clear z0
  go_cut [5] (fun v wx => ∃ A1 q1, v = .slice A1 10 q1 ∧ Byt wx wx.heap.size A1 10 b10 ∧ Below w.heap.size w wx ∧ Cells wx w.heap.size #[.int .i64 (gn : Int), .int .i64 (x.toNat : Int), .int .i64 (mn : Int), .int .i64 (tn : Int), .int .i64 (nn : Int), .int .i64 a1, .int .i64 b1, .int .i64 c1, .int .i64 d1, .int .i64 a2, .int .i64 b2, .int .i64 c2, .int .i64 d2, .slice A k c].toList)
  case first =>
    go_region_held3 (fun w' => w'.cell? ⟨w.heap.size, 1, none⟩ = some (.int .i64 (x.toNat : Int)) ∧ w'.cell? ⟨w.heap.size, 2, none⟩ = some (.int .i64 (mn : Int))) (go_keep) (first
      | (refine step_append_byt rfl Tryd.u8w (.tmp 10) (.tmp 14) rfl rfl (HO1.out.keep (by first | exact below_al w1 (.cells #[.int .u8 (x.toNat : Int)] 5) | exact Below.drew (below_al w1 (.cells #[.int .u8 (x.toNat : Int)] 5)))) rfl (by first | exact HNX.out w1 | exact Byt.drew (HNX.out w1)) ?_ ?_ ?_; decide; exact Nat.le_trans hw1 (by first | exact (below_al w1 (.cells #[.int .u8 (x.toNat : Int)] 5)).size | exact (Below.drew (below_al w1 (.cells #[.int .u8 (x.toNat : Int)] 5))).size); intro A3 q3 w3 hown3 hbel3; have HY3 : Hid (Byt w3 w3.heap.size A3 6 b6) := (by have h := hown3.byt; rw [HB6.out] at h; exact h); have HB3 : Hid (Below w.heap.size w w3) := (by first | exact (HB1.out.alloc HB1.out.size (.cells #[.int .u8 (x.toNat : Int)] 5)).trans (hbel3.mono (Nat.le_succ _)) | exact (Below.drew (HB1.out.alloc HB1.out.size (.cells #[.int .u8 (x.toNat : Int)] 5))).trans (hbel3.mono (Nat.le_succ _))); have HX3 : Hid (Cells w3 w.heap.size [.int .i64 (gn : Int), .int .i64 (x.toNat : Int), .int .i64 (mn : Int), .int .i64 (tn : Int), .int .i64 (nn : Int), .int .i64 a1, .int .i64 b1, .int .i64 c1, .int .i64 d1, .int .i64 a2, .int .i64 b2, .int .i64 c2, .int .i64 d2, .slice A k c]) := (by first | exact (HX1.out.below (below_al w1 (.cells #[.int .u8 (x.toNat : Int)] 5)) hw1).below hbel3 (Nat.lt_succ_self _) | exact (HX1.out.below (Below.drew (below_al w1 (.cells #[.int .u8 (x.toNat : Int)] 5))) hw1).below hbel3 (Nat.lt_succ_self _)); have n1 := HX3.out 1 _ rfl; have n2 := HX3.out 2 _ rfl; clear hown3 hbel3)
      | (go_at_call 41; (with_reducible refine (PUT4.out _ _ _ HY3.out).mono ?_); rintro e w4 ⟨A4, q4, rfl, hown, hbel⟩; have HY4 := Lib.hid hown.byt; have HB4 := Lib.hid (HB3.out.trans (hbel.mono HB3.out.size)); have HX4 := Lib.hid (HX3.out.below hbel HX3.out.lt); have o1 := HX4.out 1 _ rfl; have o2 := HX4.out 2 _ rfl; clear hown hbel)
      | fail)
    all_goals
      go_wp2_with fail
      (try go_simp)
      go_meet
      exact ⟨A4, q4, rfl, HY4.out, HB4.out, HX4.out⟩
  case rest =>
    obtain ⟨A1, q1, rfl, hby, hbel, hcl⟩ := hcut
    have HY5 := Lib.hid hby
    have HB5 := Lib.hid hbel
    have HX5 := Lib.hid hcl
    have hw5 := hcl.lt
    have l3 := hcl 3 _ rfl
    have l4 := hcl 4 _ rfl
    clear hby hbel hcl z1 z2 HB1 HX1 hw1 HO1 PUT0 PUT4 HB6 HNX
    obtain ⟨w5, hw5'⟩ : ∃ x, x = wc := ⟨_, rfl⟩
    subst hw5'
    have HY5d : Hid (Byt w5.drew w5.drew.heap.size A1 10 b10) := Byt.drew HY5.out
    go_upto_region 3 with fail
    go_cut [5] (fun v wx => ∃ A1 q1, v = .slice A1 21 q1 ∧ Byt wx wx.heap.size A1 21 b21 ∧ Below w.heap.size w wx ∧ Cells wx w.heap.size #[.int .i64 (gn : Int), .int .i64 (x.toNat : Int), .int .i64 (mn : Int), .int .i64 (tn : Int), .int .i64 (nn : Int), .int .i64 a1, .int .i64 b1, .int .i64 c1, .int .i64 d1, .int .i64 a2, .int .i64 b2, .int .i64 c2, .int .i64 d2, .slice A k c].toList)
    case first =>
      go_region_held3 (fun w' => w'.cell? ⟨w.heap.size, 3, none⟩ = some (.int .i64 (tn : Int)) ∧ w'.cell? ⟨w.heap.size, 4, none⟩ = some (.int .i64 (nn : Int))) (go_keep) (first
        | (go_at_call 41; (with_reducible refine (PUT6.out _ _ _ (by first | exact HY5.out | exact HY5d.out)).mono ?_); rintro e wb ⟨A3, q3, rfl, hown, hbel⟩; have HYb := Lib.hid hown.byt; have HBb : Hid (Below w.heap.size w wb) := (by first | exact HB5.out.trans (hbel.mono HB5.out.size) | exact (Below.drew HB5.out).trans (hbel.mono HB5.out.size)); have HXb : Hid (Cells wb w.heap.size [.int .i64 (gn : Int), .int .i64 (x.toNat : Int), .int .i64 (mn : Int), .int .i64 (tn : Int), .int .i64 (nn : Int), .int .i64 a1, .int .i64 b1, .int .i64 c1, .int .i64 d1, .int .i64 a2, .int .i64 b2, .int .i64 c2, .int .i64 d2, .slice A k c]) := (by first | exact HX5.out.below hbel hw5 | exact Cells.below (w := w5.drew) HX5.out hbel hw5); have m3 := HXb.out 3 _ rfl; have m4 := HXb.out 4 _ rfl; clear hown hbel)
        | (go_at_call 41; (with_reducible refine (PUT5.out _ _ _ HYb.out).mono ?_); rintro e wd ⟨A4, q4, rfl, hown, hbel⟩; have HYd := Lib.hid hown.byt; have HBd := Lib.hid (HBb.out.trans (hbel.mono HBb.out.size)); have HXd := Lib.hid (HXb.out.below hbel HXb.out.lt); have o3 := HXd.out 3 _ rfl; have o4 := HXd.out 4 _ rfl; clear hown hbel)
        | fail)
      all_goals
        go_wp2_with fail
        (try go_simp)
        go_meet
        exact ⟨A4, q4, rfl, HYd.out, HBd.out, HXd.out⟩
    case rest =>
      obtain ⟨A1, q1, rfl, hby, hbel, hcl⟩ := hcut
      have HYd := Lib.hid hby
      have HBd := Lib.hid hbel
      have HXd := Lib.hid hcl
      have hwd := hcl.lt
      clear hby hbel hcl l3 l4 HB5 HX5 hw5 HY5d HY5 PUT6 PUT5 HB10
      obtain ⟨wd, hwd'⟩ : ∃ x, x = wc := ⟨_, rfl⟩
      subst hwd'
      go_upto_region 4 with fail

      have c5 := HXd.out 5 _ rfl
      have c6 := HXd.out 6 _ rfl
      have c7 := HXd.out 7 _ rfl
      have c8 := HXd.out 8 _ rfl
      have c9 := HXd.out 9 _ rfl
      have c10 := HXd.out 10 _ rfl
      have c11 := HXd.out 11 _ rfl
      have c12 := HXd.out 12 _ rfl
      have c13 := HXd.out 13 _ rfl
      go_cut [5] (fun v wx => ∃ A1 q1, v = .slice A1 36 q1 ∧ Byt wx wx.heap.size A1 36 b36 ∧ Below w.heap.size w wx ∧ Cells wx w.heap.size #[.int .i64 (gn : Int), .int .i64 (x.toNat : Int), .int .i64 (mn : Int), .int .i64 (tn : Int), .int .i64 (nn : Int), .int .i64 a1, .int .i64 b1, .int .i64 c1, .int .i64 d1, .int .i64 a2, .int .i64 b2, .int .i64 c2, .int .i64 d2, .slice A k c].toList)
      case first =>
        go_region_held3 (fun w' => w'.cell? ⟨w.heap.size, 5, none⟩ = some (.int .i64 a1) ∧ w'.cell? ⟨w.heap.size, 6, none⟩ = some (.int .i64 b1) ∧ w'.cell? ⟨w.heap.size, 7, none⟩ = some (.int .i64 c1) ∧ w'.cell? ⟨w.heap.size, 8, none⟩ = some (.int .i64 d1) ∧ w'.cell? ⟨w.heap.size, 9, none⟩ = some (.int .i64 a2) ∧ w'.cell? ⟨w.heap.size, 10, none⟩ = some (.int .i64 b2) ∧ w'.cell? ⟨w.heap.size, 11, none⟩ = some (.int .i64 c2) ∧ w'.cell? ⟨w.heap.size, 12, none⟩ = some (.int .i64 d2) ∧ w'.cell? ⟨w.heap.size, 13, none⟩ = some (.slice A k c)) (go_keep) (first
          | (go_at_call 48; (with_reducible refine (LAY1.out _ _ _ _ (by first | exact HYd.out | exact Byt.drew HYd.out | exact Byt.drew (HYd.out.alloc (Nat.le_refl _) (.cells #[.int .u8 (k : Int)] 5))) (by first | exact Nat.le_refl _ | exact (Below.drew (Below.refl wd.heap.size wd)).size | exact (Below.drew (below_al wd (.cells #[.int .u8 (k : Int)] 5))).size)).mono ?_); rintro e we ⟨A5, q5, rfl, hown, hbel⟩; have HOe : Hid (Own we wd.heap.size 5 (.slice A5 28 q5) 28 b28) := hown.mono (by first | exact Nat.le_refl _ | simp); have HBe : Hid (Below w.heap.size w we) := (by first | exact (Below.drew HBd.out).trans (hbel.mono HBd.out.size) | exact (Below.drew (HBd.out.alloc HBd.out.size (.cells #[.int .u8 (k : Int)] 5))).trans (hbel.mono (HBd.out.alloc HBd.out.size (.cells #[.int .u8 (k : Int)] 5)).size)); have HXe : Hid (Cells we w.heap.size [.int .i64 (gn : Int), .int .i64 (x.toNat : Int), .int .i64 (mn : Int), .int .i64 (tn : Int), .int .i64 (nn : Int), .int .i64 a1, .int .i64 b1, .int .i64 c1, .int .i64 d1, .int .i64 a2, .int .i64 b2, .int .i64 c2, .int .i64 d2, .slice A k c]) := (by first | exact Cells.below (w := wd.drew) HXd.out hbel hwd | exact (HXd.out.below (Below.drew (below_al wd (.cells #[.int .u8 (k : Int)] 5))) hwd).below hbel (by simp; omega)); have HSe : Hid (wd.heap.size ≤ we.heap.size) := (by first | exact hbel.size | exact Nat.le_trans (by simp) hbel.size); (try have HLe : Hid (Byt we (wd.heap.size + 1) (some ⟨wd.heap.size, 0, none⟩) 1 [UInt8.ofNat k] ∧ wd.heap.size + 1 ≤ we.heap.size) := ⟨(Byt.drew (HNL.out wd)).below (hbel.mono (by simp)), Nat.le_trans (by simp) hbel.size⟩); have d5 := HXe.out 5 _ rfl; have d6 := HXe.out 6 _ rfl; have d7 := HXe.out 7 _ rfl; have d8 := HXe.out 8 _ rfl; have d9 := HXe.out 9 _ rfl; have d10 := HXe.out 10 _ rfl; have d11 := HXe.out 11 _ rfl; have d12 := HXe.out 12 _ rfl; have d13 := HXe.out 13 _ rfl; clear hown hbel)
          | (go_at_call 48; (with_reducible refine (LAY2.out _ _ _ _ (by first | exact HOe.out.byt | exact HOe.out.byt.alloc (Nat.le_refl _) (.cells #[.int .u8 (k : Int)] 5)) (by first | exact Nat.le_refl _ | exact (below_al we (.cells #[.int .u8 (k : Int)] 5)).size)).mono ?_); rintro e wf ⟨A6, q6, rfl, hown, hbel⟩; have HOf : Hid (Own wf we.heap.size 5 (.slice A6 35 q6) 35 b35) := hown.mono (by first | exact Nat.le_refl _ | simp); have HBf : Hid (Below w.heap.size w wf) := (by first | exact HBe.out.trans (hbel.mono HBe.out.size) | exact (HBe.out.alloc HBe.out.size (.cells #[.int .u8 (k : Int)] 5)).trans (hbel.mono (HBe.out.alloc HBe.out.size (.cells #[.int .u8 (k : Int)] 5)).size)); have HXf : Hid (Cells wf w.heap.size [.int .i64 (gn : Int), .int .i64 (x.toNat : Int), .int .i64 (mn : Int), .int .i64 (tn : Int), .int .i64 (nn : Int), .int .i64 a1, .int .i64 b1, .int .i64 c1, .int .i64 d1, .int .i64 a2, .int .i64 b2, .int .i64 c2, .int .i64 d2, .slice A k c]) := (by first | exact HXe.out.below hbel HXe.out.lt | exact (HXe.out.below (below_al we (.cells #[.int .u8 (k : Int)] 5)) HXe.out.lt).below hbel (by have := HXe.out.lt; simp; omega)); have HSf : Hid (we.heap.size ≤ wf.heap.size) := (by first | exact hbel.size | exact Nat.le_trans (by simp) hbel.size); (first | (have HLf : Hid (Byt wf (wd.heap.size + 1) (some ⟨wd.heap.size, 0, none⟩) 1 [UInt8.ofNat k]) := HLe.out.1.belowBy hbel HLe.out.2) | (have HLf : Hid (Byt wf (we.heap.size + 1) (some ⟨we.heap.size, 0, none⟩) 1 [UInt8.ofNat k]) := Byt.below (w := we.alloc (.cells #[.int .u8 (k : Int)] 5)) (HNL.out we) (hbel.mono (by simp))) | skip); have e5 := HXf.out 5 _ rfl; have e6 := HXf.out 6 _ rfl; have e7 := HXf.out 7 _ rfl; have e8 := HXf.out 8 _ rfl; have e9 := HXf.out 9 _ rfl; have e10 := HXf.out 10 _ rfl; have e11 := HXf.out 11 _ rfl; have e12 := HXf.out 12 _ rfl; have e13 := HXf.out 13 _ rfl; clear hown hbel)
          | (refine step_append_byt rfl Tryd.u8w (.tmp 35) (.tmp 40) rfl rfl (HOf.out.keep (below_al wf (.cells #[.int .u8 (k : Int)] 5))) rfl (HNL.out wf) ?_ ?_ ?_; decide; exact Nat.le_trans HSf.out (below_al _ _).size; intro A7 q7 wg hown3 hbel3; have HO7 := Lib.hid hown3; have HB7 : Hid (Below w.heap.size w wg) := (HBf.out.alloc HBf.out.size _).trans (hbel3.mono HBe.out.size); have HX7 := Lib.hid ((HXf.out.below (below_al wf _) HXf.out.lt).below hbel3 HXe.out.lt); have f5 := HX7.out 5 _ rfl; have f6 := HX7.out 6 _ rfl; have f7 := HX7.out 7 _ rfl; have f8 := HX7.out 8 _ rfl; have f9 := HX7.out 9 _ rfl; have f10 := HX7.out 10 _ rfl; have f11 := HX7.out 11 _ rfl; have f12 := HX7.out 12 _ rfl; have f13 := HX7.out 13 _ rfl; clear hown3 hbel3)
          | (refine step_append_byt rfl Tryd.u8w (.tmp 35) (.tmp 40) rfl rfl HOf.out rfl HLf.out ?_ ?_ ?_; decide; exact HSf.out; intro A7 q7 wg hown3 hbel3; have HO7 := Lib.hid hown3; have HB7 : Hid (Below w.heap.size w wg) := HBf.out.trans (hbel3.mono HBe.out.size); have HX7 := Lib.hid (HXf.out.below hbel3 HXe.out.lt); have f5 := HX7.out 5 _ rfl; have f6 := HX7.out 6 _ rfl; have f7 := HX7.out 7 _ rfl; have f8 := HX7.out 8 _ rfl; have f9 := HX7.out 9 _ rfl; have f10 := HX7.out 10 _ rfl; have f11 := HX7.out 11 _ rfl; have f12 := HX7.out 12 _ rfl; have f13 := HX7.out 13 _ rfl; clear hown3 hbel3)
          | fail)
        all_goals
          go_wp2_with fail
          (try go_simp)
          go_meet
          exact ⟨A7, q7, rfl, by have h := HO7.out.byt; rw [HB36.out] at h; exact h, HB7.out, HX7.out⟩
      case rest =>
        obtain ⟨A7, q7, rfl, hby, hbel, hcl⟩ := hcut
        have HY7 := Lib.hid hby
        have HB7 := Lib.hid hbel
        have p13 := hcl 13 _ rfl
        have HX7 := Lib.hid hcl
        clear hby hbel hcl c5 c6 c7 c8 c9 c10 c11 c12 c13 HXd HYd HBd hwd LAY1 LAY2
        obtain ⟨w7, hw7⟩ : ∃ x, x = wc := ⟨_, rfl⟩
        subst hw7
        rcases HFS.out with ⟨h1, h2⟩ | ⟨⟨fa, fb, fc, fd⟩, hFl, h1, h2⟩
        · have hk1 : ¬ (k : Int) = 2 := by have := HLEN.out; omega
          have HE2 : Hid (frame 3 0 sn b36 = r) := by
            have h := HEN.out
            rw [h2, List.append_nil] at h
            exact h
          clear HFS h1 h2
          go_wp2_with (go_at_call 17; refine (refEncode_any 3 0 sn b36 _ 36 q7 w7.heap.size w7 HY7.out (by decide) (Nat.le_refl _) (by decide) hsn r HE2.out).mono ?_; rintro e' w8 ⟨A8, q8, rfl, hown, hbel⟩; have HO8 := Lib.hid hown; have HB8 := Lib.hid (HB7.out.trans (hbel.mono HB7.out.size)); clear hown hbel)
          go_ret
          exact ⟨A8, q8, rfl, HO8.out.mono HB7.out.size, HB8.out⟩
        · have hk2' : k = 2 := by rw [← HLEN.out, h1]; rfl
          subst hk2'
          subst h1
          obtain ⟨ad, rfl, hadl, _, _, _, _, y4, y5, y6, y7⟩ := (HL.out _ HB7.out).two
          dsimp only at y4 y5 y6 y7 hFl h2
          have hFl' : LayOk fa fb fc fd := hFl
          obtain ⟨b43, hb43⟩ : ∃ l, b36 ++ lbytes fa fb fc fd = l := ⟨_, rfl⟩
          have l43 : b43.length = 43 := by rw [← hb43]; simp [lbytes_len, LB36.out]
          have HE2 : Hid (frame 3 0 sn b43 = r) := by
            have h := HEN.out
            rw [h2, Ly.lb, hb43] at h
            exact h
          have LAY3 : Hid (Calls Tryd.prog 48 #[.slice A7 36 q7, .agg #[.int .i64 fa, .int .i64 fb, .int .i64 fc, .int .i64 fd]] w7 fun e w' => ∃ A' c', e = .returned (.slice A' 43 c') ∧ Own w' w7.heap.size 5 (.slice A' 43 c') 43 b43 ∧ Below w7.heap.size w7 w') := by
            refine (rput_any fa fb fc fd b36 A7 36 q7 w7.heap.size w7 hFl' HY7.out (by decide) (Nat.le_refl _)).mono ?_
            rw [hb43]
            rintro e w' ⟨A', c', rfl, h1, h2⟩
            rw [l43] at h1 ⊢
            exact ⟨A', c', rfl, h1, h2⟩
          have HKC := Lib.hid hkc
          clear HFS h2 hb43 hFl hFl' hkc
          go_wp2_with (first
            | (go_at_call 48; refine LAY3.out.mono ?_; rintro e' w8 ⟨A8, q8, rfl, hown, hbel⟩; have HY8 := Lib.hid hown.byt; have HB8 := Lib.hid (HB7.out.trans (hbel.mono HB7.out.size)); clear hown hbel)
            | (go_at_call 17; refine (refEncode_any 3 0 sn b43 _ 43 q8 w8.heap.size w8 HY8.out (by decide) (Nat.le_refl _) (by decide) hsn r HE2.out).mono ?_; rintro e' w9 ⟨A9, q9, rfl, hown, hbel⟩; have HO9 := Lib.hid hown; have HB9 := Lib.hid (HB8.out.trans (hbel.mono HB8.out.size)); clear hown hbel))
          go_ret
          exact ⟨A9, q9, rfl, HO9.out.mono HB8.out.size, HB9.out⟩
end Go.Proofs.YthjnbdbbeidhgaaDoor
