/- The walk of the law RecordDecode. -/
import Derived.Test.YtcaliolcmooooaaDoorRecCut
import Derived.Test.YtcaliolcmooooaaDoorRefRDec2
namespace Go.Proofs.YtcaliolcmooooaaDoor
open Go.RowKit

theorem refRDecode_any (v s o : Int) (bs : List UInt8) (A : Option Addr) (n cap B : Nat) (w : World) (hb : Byt w B A n bs) (hn : n ≤ cap) (hcap : cap ≤ 9223372036854775807) (hB : B ≤ w.heap.size) (hs : s ≤ 9223372036854775807) (r : Option (Rcd × Nat)) (hr : rdec v s o bs = r) :
    Calls Tryd.prog 17 #[.int .i64 v, .int .i64 s, .int .i64 o, .slice A n cap] w (RDecRes r w) := by
  by_cases hbad : (¬ v = 1 ∧ ¬ v = 2) ∨ s < 0 ∨ o < 0 ∨ 2147483647 < o ∨ n < 16
  · exact refRdec_bad v s o bs A n cap B w hb hn hcap hB hs r hr hbad
  · exact refRdec_good v s o bs A n cap B w hb hn hcap hB hs r hr (by omega) (by omega) (by omega) (by omega) (by omega)

set_option maxRecDepth 100000 in
set_option maxHeartbeats 4000000 in
theorem recordDecode_any (v s o : Int) (bs : List UInt8) (A : Option Addr) (n cap : Nat) (w : World) (ht : TabAt w) (h0 : 0 < w.heap.size) (hb : Byt w w.heap.size A n bs) (hn : n ≤ cap) (hcap : cap ≤ 9223372036854775807) (hs : s ≤ 9223372036854775807) :
    Calls Tryd.prog 4 #[.agg #[.int .i64 v, .int .i64 s, .int .i64 o], .slice A n cap] w fun e w' => e = .returned (.bool true) ∧ Below w.heap.size w w' := by
  have HT : Hid (∀ w', Below w.heap.size w w' → TabAt w' ∧ 0 < w'.heap.size) := fun w' hw => ⟨ht.below hw h0, Nat.lt_of_lt_of_le h0 hw.size⟩
  obtain ⟨m, hmin, hmn, hm4, _, _⟩ := min_pick n 400
  have HMIN := Lib.hid hmin
  have hmc : m ≤ cap := by omega
  have hmi : (m : Int) ≤ (cap : Int) := by omega
  obtain ⟨b', hb'⟩ : ∃ x, bs.take m = x := ⟨_, rfl⟩
  have HY : Hid (∀ w', Below w.heap.size w w' → Byt w' w.heap.size A m b') := fun w' hw => by rw [← hb']; exact (hb.take hmn).below hw
  obtain ⟨r, hr⟩ : ∃ r, rdec v s o b' = r := ⟨_, rfl⟩
  have HR := Lib.hid hr
  have hlen := (HY.out w (Below.refl _ _)).len
  have hsm : ∀ ki ex key val L, r = some ((ki, ex, key, val), L) → key.length ≤ 1000 ∧ val.length ≤ 1000 := by
    intro ki ex key val L he
    rw [he] at hr
    unfold rdec at hr
    simp only at hr
    split at hr
    · rename_i hc
      injection hr with hr
      simp only [Prod.mk.injEq] at hr
      obtain ⟨⟨_, _, rfl, rfl⟩, _⟩ := hr
      constructor
      · unfold rkey; rw [List.length_take, List.length_drop]; omega
      · unfold rval; rw [List.length_take, List.length_drop]; omega
    · cases hr
  have HSM := Lib.hid hsm
  have HB0 : Hid (Below w.heap.size w (w.alloc (.cells #[.int .i64 v, .int .i64 s, .int .i64 o] 23))) := (Below.refl _ _).alloc (Nat.le_refl _) _
  have HP0 : Hid (BoxP (w.alloc (.cells #[.int .i64 v, .int .i64 s, .int .i64 o] 23)) w.heap.size v s o) := BoxP.new w 23 v s o
  have hz0 : w.heap.size < (w.alloc (.cells #[.int .i64 v, .int .i64 s, .int .i64 o] 23)).heap.size := by simp
  clear hb ht h0 hmin hr hb' hlen hsm
  have AW := Lib.hid (fun (u : World) (hu : Below w.heap.size w u) => recAwake_any u (HT.out _ hu).1 (HT.out _ hu).2)
  go_enter Tryd.func4, Tryd.ntmps4
  go_wp2_with (refine wpList_min rfl _ _ rfl (p := (n : Int)) (q := 400) (m := (m : Int)) ?_ ?_ ?_ ?_; rfl; rfl; exact HMIN.out)
  refine (recDecode_any v s o b' A m cap w.heap.size _ (HT.out _ HB0.out).1 (HT.out _ HB0.out).2 (HY.out _ HB0.out) hmc hcap HB0.out.size hs r HR.out).mono ?_
  cases r with
  | none =>
    rintro e w1 ⟨rfl, hbel⟩
    have HB1 := Lib.hid (HB0.out.trans (hbel.mono HB0.out.size))
    have HP1 := Lib.hid (HP0.out.below hbel hz0)
    have hw1 : w.heap.size < w1.heap.size := Nat.lt_of_lt_of_le hz0 hbel.size
    clear hbel
    have HB1a := Lib.hid (HB1.out.alloc HB1.out.size (.cells #[.int .i64 0, .slice none 0 0, .slice none 0 0, .int .i64 0] 26))
    have HP1a := Lib.hid (HP1.out.below ((Below.refl w1.heap.size w1).alloc (Nat.le_refl _) (.cells #[.int .i64 0, .slice none 0 0, .slice none 0 0, .int .i64 0] 26)) hw1)
    have HX1 := Lib.hid (BoxR.new w1 26 0 0 none none 0 0 0 0)
    obtain ⟨p0, p1, p2⟩ := HP1.out
    go_wp2_with fail
    clear p0 p1 p2
    refine (refRDecode_any v s o b' A m cap w.heap.size _ (HY.out _ HB1a.out) hmc hcap HB1a.out.size hs none HR.out).mono ?_
    rintro e w2 ⟨rfl, hbel⟩
    have HB2 := Lib.hid (HB1a.out.trans (hbel.mono HB1a.out.size))
    have HX2 := Lib.hid (HX1.out.below hbel (by simp))
    have hw2 : w1.heap.size < w2.heap.size := by have := hbel.size; simp at this; omega
    clear hbel
    have HB2a := Lib.hid (HB2.out.alloc HB2.out.size (.cells #[.int .i64 0, .slice none 0 0, .slice none 0 0, .int .i64 0] 26))
    have HX2a := Lib.hid (HX2.out.below ((Below.refl w2.heap.size w2).alloc (Nat.le_refl _) (.cells #[.int .i64 0, .slice none 0 0, .slice none 0 0, .int .i64 0] 26)) hw2)
    have HY2 := Lib.hid (BoxR.new w2 26 0 0 none none 0 0 0 0)
    go_wp2_with fail
    refine (AW.out _ HB2a.out).mono ?_
    rintro e w3 ⟨rfl, hbel⟩
    have HB3 := Lib.hid (HB2a.out.trans (hbel.mono HB2a.out.size))
    obtain ⟨x0, x1, x2, x3⟩ := HX2a.out.below hbel (by simp; omega)
    obtain ⟨y0, y1, y2, y3⟩ := HY2.out.below hbel (by simp)
    clear hbel
    go_wp2_with fail
    refine (refREq_any 0 0 0 0 [] [] [] [] none none none none 0 0 0 0 0 0 0 0 w.heap.size _ (Byt.nil _ _ _) (Byt.nil _ _ _) (Byt.nil _ _ _) (Byt.nil _ _ _) HB3.out.size (by decide) (by decide) (by decide) (by decide) true (by decide)).mono ?_
    rintro e w4 ⟨rfl, hbel⟩
    have HB4 := Lib.hid (HB3.out.trans (hbel.mono HB3.out.size))
    clear hbel
    go_wp2
    go_ret
    exact ⟨rfl, HB4.out⟩
  | some q =>
    obtain ⟨⟨ki, ex, key, val⟩, L⟩ := q
    obtain ⟨hkl, hvl⟩ := HSM.out ki ex key val L rfl
    rintro e w1 ⟨Ak, ck, Av, cv, rfl, hk, hv, hbel⟩
    have HK1 := Lib.hid hk
    have HV1 := Lib.hid hv
    have HB1 := Lib.hid (HB0.out.trans (hbel.mono HB0.out.size))
    have HP1 := Lib.hid (HP0.out.below hbel hz0)
    have hw1 : w.heap.size < w1.heap.size := Nat.lt_of_lt_of_le hz0 hbel.size
    clear hbel hk hv
    obtain ⟨nk, hnk⟩ : ∃ x, key.length = x := ⟨_, rfl⟩
    obtain ⟨nv, hnv⟩ : ∃ x, val.length = x := ⟨_, rfl⟩
    rw [hnk] at HK1 hkl ⊢
    rw [hnv] at HV1 hvl ⊢
    have HNK := Lib.hid hnk
    have HNV := Lib.hid hnv
    clear hnk hnv
    have HB1a := Lib.hid (HB1.out.alloc HB1.out.size (.cells #[.int .i64 ki, .slice Ak nk ck, .slice Av nv cv, .int .i64 ex] 26))
    have HP1a := Lib.hid (HP1.out.below ((Below.refl w1.heap.size w1).alloc (Nat.le_refl _) (.cells #[.int .i64 ki, .slice Ak nk ck, .slice Av nv cv, .int .i64 ex] 26)) hw1)
    have HX1 := Lib.hid (BoxR.new w1 26 ki ex Ak Av nk ck nv cv)
    have HK1a := Lib.hid (HK1.out.keep ((Below.refl w1.heap.size w1).alloc (Nat.le_refl _) (.cells #[.int .i64 ki, .slice Ak nk ck, .slice Av nv cv, .int .i64 ex] 26)))
    have HV1a := Lib.hid (HV1.out.keep ((Below.refl w1.heap.size w1).alloc (Nat.le_refl _) (.cells #[.int .i64 ki, .slice Ak nk ck, .slice Av nv cv, .int .i64 ex] 26)))
    obtain ⟨p0, p1, p2⟩ := HP1.out
    go_wp2_with fail
    clear p0 p1 p2
    refine (refRDecode_any v s o b' A m cap w.heap.size _ (HY.out _ HB1a.out) hmc hcap HB1a.out.size hs (some ((ki, ex, key, val), L)) HR.out).mono ?_
    rintro e w2 ⟨Ak2, ck2, Av2, cv2, rfl, hk, hv, hbel⟩
    rw [HNK.out] at hk ⊢
    rw [HNV.out] at hv ⊢
    have HK2 := Lib.hid hk
    have HV2 := Lib.hid hv
    have HKx := Lib.hid (HK1a.out.keep hbel)
    have HVx := Lib.hid (HV1a.out.keep hbel)
    have HB2 := Lib.hid (HB1a.out.trans (hbel.mono HB1a.out.size))
    have HX2 := Lib.hid (HX1.out.below hbel (by simp))
    have hw2 : w1.heap.size < w2.heap.size := by have := hbel.size; simp at this; omega
    clear hbel hk hv
    have HO2 := Lib.hid ((Below.refl w2.heap.size w2).alloc (Nat.le_refl _) (.cells #[.int .i64 ki, .slice Ak2 nk ck2, .slice Av2 nv cv2, .int .i64 ex] 26))
    have HB2a := Lib.hid (HB2.out.alloc HB2.out.size (.cells #[.int .i64 ki, .slice Ak2 nk ck2, .slice Av2 nv cv2, .int .i64 ex] 26))
    have HX2a := Lib.hid (HX2.out.below HO2.out hw2)
    have HY2 := Lib.hid (BoxR.new w2 26 ki ex Ak2 Av2 nk ck2 nv cv2)
    go_wp2_with fail
    refine (AW.out _ HB2a.out).mono ?_
    rintro e w3 ⟨rfl, hbel⟩
    have HB3 := Lib.hid (HB2a.out.trans (hbel.mono HB2a.out.size))
    have HO3 := Lib.hid (HO2.out.trans (hbel.mono HO2.out.size))
    obtain ⟨x0, x1, x2, x3⟩ := HX2a.out.below hbel (by simp; omega)
    obtain ⟨y0, y1, y2, y3⟩ := HY2.out.below hbel (by simp)
    clear hbel
    go_wp2_with fail
    refine (refREq_any ki ex ki ex key val key val Ak Av Ak2 Av2 nk ck nv cv nk ck2 nv cv2 w2.heap.size _ (HKx.out.byt.below HO3.out) (HVx.out.byt.below HO3.out) (HK2.out.byt.below HO3.out) (HV2.out.byt.below HO3.out) HO3.out.size (by omega) (by omega) (by omega) (by omega) true (decide_eq_true ⟨rfl, rfl, rfl, rfl⟩)).mono ?_
    rintro e w4 ⟨rfl, hbel⟩
    have HB4 := Lib.hid (HB3.out.trans (hbel.mono HB3.out.size))
    clear hbel
    go_wp2
    go_ret
    exact ⟨rfl, HB4.out⟩
end Go.Proofs.YtcaliolcmooooaaDoor
