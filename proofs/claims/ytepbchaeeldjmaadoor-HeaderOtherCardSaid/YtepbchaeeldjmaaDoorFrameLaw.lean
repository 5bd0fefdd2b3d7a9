/- The walks of the laws FrameEncode, FrameDecode, FrameOther, and of Awake. -/
import Derived.Test.YtepbchaeeldjmaaDoorFrameWalk
import Derived.Lib.SlBytesConst
namespace Go.Proofs.YtepbchaeeldjmaaDoor
open Go.RowKit

/-- A block of three ints. -/
def Box3 (w : World) (g : Nat) (a b c : Int) : Prop := w.cell? ⟨g, 0, none⟩ = some (.int .i64 a) ∧ w.cell? ⟨g, 1, none⟩ = some (.int .i64 b) ∧ w.cell? ⟨g, 2, none⟩ = some (.int .i64 c)
theorem Box3.below {w w' : World} {g B : Nat} {a b c : Int} (h : Box3 w g a b c) (hb : Below B w w') (hg : g < B) : Box3 w' g a b c :=
  ⟨(hb.cell (by exact hg)).trans h.1, (hb.cell (by exact hg)).trans h.2.1, (hb.cell (by exact hg)).trans h.2.2⟩
theorem Box3.new (w : World) (e : TypeId) (a b c : Int) : Box3 (w.alloc (.cells #[.int .i64 a, .int .i64 b, .int .i64 c] e)) w.heap.size a b c :=
  ⟨cell_of_row _ _ _ _ _ _ (heap_alloc_new w _), cell_of_row _ _ _ _ _ _ (heap_alloc_new w _), cell_of_row _ _ _ _ _ _ (heap_alloc_new w _)⟩
theorem Box3.drewN {w : World} {g : Nat} {a b c : Int} (h : Box3 w g a b c) (k : Nat) : Box3 (w.drewN k) g a b c := h

theorem ofDrewN {B : Nat} {w w' : World} (h : Below B w w') (k : Nat) : Below B w (w'.drewN k) := ⟨h.os, h.tape, h.output, h.size, h.block⟩

set_option maxHeartbeats 1000000 in
theorem frameAwake_any (w : World) (ht : TabAt w) (h0 : 0 < w.heap.size) :
    Calls Tryd.prog 14 #[] w fun e w' => e = .returned (.bool true) ∧ Below w.heap.size w w' := by
  have kc := fun (w : World) (C : Array Value) (n c : Nat) => Lib.run_convert_bytes_const (P := Tryd.prog) w 24 5 C n c Tryd.underlying24 Tryd.underlying5
  obtain ⟨fr, hfr⟩ : ∃ fr, frame 2 7 80 [97, 98] = fr := ⟨_, rfl⟩
  have HE : Hid (encS 2 7 80 [97, 98] = (fr, 0)) := by rw [← hfr]; show encS 2 7 80 [97, 98] = _; unfold encS; rw [if_pos (by decide), if_pos (by decide)]; rfl
  have HD : Hid (dec 2 7 80 fr = some ([97, 98] ++ List.replicate 57 0)) := by rw [← hfr]; exact dec_frame (kind := 2) (salt := 7) (sector := 80) (p := [97, 98]) (by decide) (by decide)
  have HFL : Hid (fr.length = 64) := by rw [← hfr]; exact frame_len (by decide)
  have HF0 : Hid (fr[0]? = some 2) := by rw [← hfr]; rfl
  have HT := Lib.hid ht
  have H0 := Lib.hid h0
  clear ht hfr h0
  go_enter Tryd.func14, Tryd.ntmps14
  go_wp2_with fail
  have HB0 := Lib.hid ((Below.refl w.heap.size w).alloc (Nat.le_refl _) (.cells #[.int .u8 97, .int .u8 98] 5 (2, 3)))
  refine (encode_any 2 7 80 [97, 98] _ 2 2 (w.heap.size + 1) _ (HT.out.below HB0.out H0.out) (by simp) (Byt.new w _ _ _ [97, 98] rfl) (by decide) (by simp) (by decide) _ HE.out).mono ?_
  rintro e w1 ⟨A1, c1, rfl, hown, hbel⟩
  simp only [HFL.out] at hown ⊢
  obtain ⟨g, rfl⟩ := hown.head (by decide)
  obtain ⟨_, _, hv, hc1, hc2⟩ := hown.form
  injection hv with hv1 hv2 hv3
  subst hv3
  have HO1 := Lib.hid hown
  have HB1 : Hid (Below w.heap.size w w1) := HB0.out.trans (hbel.mono (by simp))
  clear hown hbel hv1 hv2
  go_wp2_with fail
  refine (decode_any 2 7 80 fr _ 64 c1 w1.heap.size w1 (HT.out.below HB1.out H0.out) (Nat.lt_of_lt_of_le H0.out HB1.out.size) HO1.out.byt hc1 hc2 (Nat.le_refl _) (by decide) _ HD.out).mono ?_
  rintro e w2 ⟨A2, c2, rfl, hown, hbel⟩
  have hpl : ((some ([97, 98] ++ List.replicate 57 (0 : UInt8))).getD []).length = 59 := rfl
  rw [hpl] at hown ⊢
  have HO2 := Lib.hid (HO1.out.keep hbel)
  have HB2 := Lib.hid (HB1.out.trans (hbel.mono HB1.out.size))
  obtain ⟨g2, rfl⟩ := hown.head (by decide)
  obtain ⟨b0, hb0, q0, _⟩ := HO2.out.at_ 0 (by decide)
  obtain ⟨b1, hb1, q1, _⟩ := hown.at_ 1 (by decide)
  have e0 : b0 = 2 := by rw [HF0.out] at hb0; injection hb0 with hb0; exact hb0.symm
  have e1 : b1 = 98 := by have : some (98 : UInt8) = some b1 := hb1; injection this with this; exact this.symm
  subst e0 e1
  have q0' : w2.cell? ⟨g, 0, none⟩ = some (.int .u8 2) := q0
  have q1' : w2.cell? ⟨g2, 1, none⟩ = some (.int .u8 98) := q1
  clear hown hbel hpl hb0 hb1 q0 q1
  go_wp2
  go_ret
  exact ⟨rfl, HB2.out⟩

set_option maxHeartbeats 1000000 in
theorem frameDecode_any (k s t : Int) (bs : List UInt8) (A : Option Addr) (n cap : Nat) (w : World) (ht : TabAt w) (h0 : 0 < w.heap.size) (hb : Byt w w.heap.size A n bs) (hn : n ≤ cap) (hcap : cap ≤ 9223372036854775807) (hs : s ≤ 9223372036854775807) :
    Calls Tryd.prog 4 #[.agg #[.int .i64 k, .int .i64 s, .int .i64 t], .slice A n cap] w fun e w' => e = .returned (.bool true) ∧ Below w.heap.size w w' := by
  have HB : Hid (∀ m w', m ≤ n → Below w.heap.size w w' → Byt w' w.heap.size A m (bs.take m)) := fun m w' hm hw => (hb.take hm).below hw
  have HT : Hid (∀ w', Below w.heap.size w w' → TabAt w' ∧ 0 < w'.heap.size) := fun w' hw => ⟨ht.below hw h0, Nat.lt_of_lt_of_le h0 hw.size⟩
  clear hb ht h0
  by_cases h70 : n ≤ 70
  all_goals
    go_enter Tryd.func4, Tryd.ntmps4
    go_wp2_with fail
    have HB0 := Lib.hid ((Below.refl w.heap.size w).alloc (Nat.le_refl _) (.cells #[.int .i64 k, .int .i64 s, .int .i64 t] 23))
    refine (decode_any k s t _ _ _ _ w.heap.size _ (HT.out _ HB0.out).1 (HT.out _ HB0.out).2 (HB.out _ _ ?_ HB0.out) ?_ ?_ (by simp) hs _ rfl).mono ?_
    · omega
    · omega
    · omega
    generalize hr : dec k s t _ = r
    rintro e w1 ⟨A1, c1, rfl, hown, hbel⟩
    have HR := Lib.hid hr
    have HO1 := Lib.hid hown
    have HB1 : Hid (Below w.heap.size w w1) := HB0.out.trans (hbel.mono (by simp))
    obtain ⟨l0, l1, l2⟩ := (Box3.new w 23 k s t).below hbel (by simp)
    have hw1 : w.heap.size < w1.heap.size := by have := hbel.size; simp at this; omega
    obtain ⟨b, hb⟩ : ∃ b, r.isSome = b := ⟨_, rfl⟩
    obtain ⟨x, hx⟩ : ∃ x, r.getD [] = x := ⟨_, rfl⟩
    have HX : Hid (r.isSome = b ∧ r.getD [] = x) := ⟨hb, hx⟩
    rw [hx] at HO1 ⊢
    rw [hb]
    clear hr hown hbel hb hx
    go_wp2_with fail
    refine (refDecode_any k s t _ _ _ _ w.heap.size _ (HB.out _ _ ?_ HB1.out) ?_ ?_ HB1.out.size hs _ HR.out).mono ?_
    · omega
    · omega
    · omega
    rintro e w2 ⟨A2, c2, hv, hown, hbel⟩
    rw [HX.out.2] at hown hv
    rw [HX.out.1] at hv
    subst hv
    have HO2 := Lib.hid (HO1.out.keep hbel)
    have HP2 := Lib.hid hown
    have HB2 := Lib.hid (HB1.out.trans (hbel.mono HB1.out.size))
    clear hown hbel l0 l1 l2
    go_wp2_with fail
    refine (frameAwake_any w2 (HT.out _ HB2.out).1 (HT.out _ HB2.out).2).mono ?_
    rintro e w3 ⟨rfl, hbel⟩
    have HO3 := Lib.hid (HO2.out.keep hbel)
    have HP3 := Lib.hid (HP2.out.keep hbel)
    have HB3 := Lib.hid (HB2.out.trans (hbel.mono HB2.out.size))
    have hxl : x.length ≤ 9223372036854775807 := by obtain ⟨_, _, _, h1, h2⟩ := HO3.out.form; omega
    clear hbel
    go_wp2_with fail
    refine (eq_any x x _ _ _ _ _ _ _ _ w3 HO3.out.byt HP3.out.byt hxl hxl).mono ?_
    rintro e w4 ⟨rfl, q, rfl⟩
    rw [decide_eq_true rfl]
    go_wp2
    go_ret
    exact ⟨rfl, ofDrewN HB3.out _⟩

set_option maxHeartbeats 1000000 in
theorem frameEncode_any (k s t : Int) (bs : List UInt8) (A : Option Addr) (n cap : Nat) (w : World) (ht : TabAt w) (h0 : 0 < w.heap.size) (hb : Byt w w.heap.size A n bs) (hn : n ≤ cap) (hcap : cap ≤ 9223372036854775807) (hs : s ≤ 9223372036854775807) :
    Calls Tryd.prog 3 #[.agg #[.int .i64 k, .int .i64 s, .int .i64 t], .slice A n cap] w fun e w' => e = .returned (.bool true) ∧ Below w.heap.size w w' := by
  have HB : Hid (∀ m w', m ≤ n → Below w.heap.size w w' → Byt w' w.heap.size A m (bs.take m)) := fun m w' hm hw => (hb.take hm).below hw
  have HT : Hid (∀ w', Below w.heap.size w w' → TabAt w' ∧ 0 < w'.heap.size) := fun w' hw => ⟨ht.below hw h0, Nat.lt_of_lt_of_le h0 hw.size⟩
  have hl := hb.len
  cases hm : may k s t
  · have HE : Hid (∀ m, 0 ≤ m → m ≤ n → encS k s t (bs.take m) = ([], 2)) := fun m _ _ => by unfold encS; rw [if_neg (by rw [hm]; decide)]
    have HM := Lib.hid hm
    clear hb ht h0 hl hm
    by_cases h70 : n ≤ 70
    all_goals
      go_enter Tryd.func3, Tryd.ntmps3
      go_wp2_with fail
      have HB0 := Lib.hid ((Below.refl w.heap.size w).alloc (Nat.le_refl _) (.cells #[.int .i64 k, .int .i64 s, .int .i64 t] 23))
      refine (encode_any k s t _ _ _ _ w.heap.size _ (HT.out _ HB0.out).1 (HT.out _ HB0.out).2 (HB.out _ _ ?_ HB0.out) ?_ (by simp) hs _ (HE.out _ ?_ ?_)).mono ?_
      · omega
      · omega
      · omega
      · omega
      rintro e w1 ⟨A1, c1, rfl, hown, hbel⟩
      have HO1 := Lib.hid hown
      have HB1 : Hid (Below w.heap.size w w1) := HB0.out.trans (hbel.mono (by simp))
      obtain ⟨l0, l1, l2⟩ := (Box3.new w 23 k s t).below hbel (by simp)
      have hw1 : w.heap.size < w1.heap.size := by have := hbel.size; simp at this; omega
      clear hown hbel
      go_wp2_with fail
      refine (refMay_any k s t _).mono ?_
      rintro e w' ⟨rfl, rfl⟩
      rw [HM.out]
      go_wp2_with fail
      refine (frameAwake_any w1 (HT.out _ HB1.out).1 (HT.out _ HB1.out).2).mono ?_
      rintro e w3 ⟨rfl, hbel⟩
      have HB3 := Lib.hid (HB1.out.trans (hbel.mono HB1.out.size))
      clear hbel
      go_wp2
      go_ret
      exact ⟨rfl, HB3.out⟩
  · by_cases h59 : n ≤ 59
    · have hmi := (may_iff _ _ _).1 hm
      obtain ⟨x, rfl⟩ : ∃ x : UInt8, k = (x.toNat : Int) := ⟨UInt8.ofNat k.toNat, by simp; omega⟩
      obtain ⟨s, rfl⟩ := Int.eq_ofNat_of_zero_le hmi.2.2.1
      obtain ⟨t, rfl⟩ := Int.eq_ofNat_of_zero_le hmi.2.2.2.1
      have htl : t < 1048576 := by omega
      obtain ⟨fr, hfr⟩ : ∃ fr, frame x.toNat s t (bs.take n) = fr := ⟨_, rfl⟩
      have HE : Hid (encS x.toNat s t (bs.take n) = (fr, 0)) := by
        show encS _ _ _ _ = _
        unfold encS
        rw [if_pos hm, if_pos (by rw [List.length_take]; omega), Int.toNat_natCast, Int.toNat_natCast, Int.toNat_natCast, hfr]
      have HFL : Hid (fr.length = 64) := by rw [← hfr]; exact frame_len (by rw [List.length_take]; omega)
      have HF := Lib.hid hfr
      have HM := Lib.hid hm
      have hn70 : n ≤ 70 := by omega
      clear hb ht h0 hl hm hmi hfr
      go_enter Tryd.func3, Tryd.ntmps3
      go_wp2_with fail
      have HB0 := Lib.hid ((Below.refl w.heap.size w).alloc (Nat.le_refl _) (.cells #[.int .i64 x.toNat, .int .i64 s, .int .i64 t] 23))
      refine (encode_any x.toNat s t (bs.take n) _ _ _ w.heap.size _ (HT.out _ HB0.out).1 (HT.out _ HB0.out).2 (HB.out n _ (Nat.le_refl _) HB0.out) (by omega) (by simp) hs _ HE.out).mono ?_
      rintro e w1 ⟨A1, c1, rfl, hown, hbel⟩
      simp only [HFL.out] at hown ⊢
      have HO1 := Lib.hid hown
      have HB1 : Hid (Below w.heap.size w w1) := HB0.out.trans (hbel.mono (by simp))
      obtain ⟨l0, l1, l2⟩ := (Box3.new w 23 (x.toNat : Int) (s : Int) (t : Int)).below hbel (by simp)
      have hw1 : w.heap.size < w1.heap.size := by have := hbel.size; simp at this; omega
      have HBX : Hid (Box3 w1 w.heap.size (x.toNat : Int) (s : Int) (t : Int)) := ⟨l0, l1, l2⟩
      clear hown hbel
      go_wp2_with fail
      refine (refMay_any (x.toNat : Int) s t _).mono ?_
      rintro e w' ⟨rfl, rfl⟩
      rw [HM.out]
      go_wp2_with fail
      refine (frameAwake_any w1 (HT.out _ HB1.out).1 (HT.out _ HB1.out).2).mono ?_
      rintro e w3 ⟨rfl, hbel⟩
      have HB3 := Lib.hid (HB1.out.trans (hbel.mono HB1.out.size))
      have HO3 := Lib.hid (HO1.out.keep hbel)
      obtain ⟨m0, m1, m2⟩ := HBX.out.below hbel (by omega)
      clear hbel l0 l1 l2
      go_wp2_with fail
      refine (refEncode_any x s t (bs.take n) _ _ _ w.heap.size _ (HB.out n _ (Nat.le_refl _) HB3.out) h59 HB3.out.size hs htl _ HF.out).mono ?_
      rintro e w4 ⟨A4, c4, rfl, hown, hbel⟩
      rw [HFL.out] at hown ⊢
      have HO4 := Lib.hid (HO3.out.keep hbel)
      have HP4 := Lib.hid hown
      have HB4 := Lib.hid (HB3.out.trans (hbel.mono HB3.out.size))
      clear hown hbel
      go_wp2_with fail
      refine (eq_any fr fr _ _ _ _ _ _ _ _ w4 HO4.out.byt HP4.out.byt (by decide) (by decide)).mono ?_
      rintro e w5 ⟨rfl, q, rfl⟩
      rw [decide_eq_true rfl]
      go_wp2
      go_ret
      exact ⟨rfl, ofDrewN HB4.out _⟩
    · have HE : Hid (∀ m, 59 < m → m ≤ n → encS k s t (bs.take m) = ([], 3)) := fun m h1 h2 => by unfold encS; rw [if_pos hm, if_neg (by rw [List.length_take]; omega)]
      have HM := Lib.hid hm
      clear hb ht h0 hl hm
      by_cases h70 : n ≤ 70
      all_goals
        go_enter Tryd.func3, Tryd.ntmps3
        go_wp2_with fail
        have HB0 := Lib.hid ((Below.refl w.heap.size w).alloc (Nat.le_refl _) (.cells #[.int .i64 k, .int .i64 s, .int .i64 t] 23))
        refine (encode_any k s t _ _ _ _ w.heap.size _ (HT.out _ HB0.out).1 (HT.out _ HB0.out).2 (HB.out _ _ ?_ HB0.out) ?_ (by simp) hs _ (HE.out _ ?_ ?_)).mono ?_
        · omega
        · omega
        · omega
        · omega
        rintro e w1 ⟨A1, c1, rfl, hown, hbel⟩
        have HO1 := Lib.hid hown
        have HB1 : Hid (Below w.heap.size w w1) := HB0.out.trans (hbel.mono (by simp))
        obtain ⟨l0, l1, l2⟩ := (Box3.new w 23 k s t).below hbel (by simp)
        have hw1 : w.heap.size < w1.heap.size := by have := hbel.size; simp at this; omega
        clear hown hbel
        go_wp2_with fail
        refine (refMay_any k s t _).mono ?_
        rintro e w' ⟨rfl, rfl⟩
        rw [HM.out]
        go_wp2_with fail
        refine (frameAwake_any w1 (HT.out _ HB1.out).1 (HT.out _ HB1.out).2).mono ?_
        rintro e w3 ⟨rfl, hbel⟩
        have HB3 := Lib.hid (HB1.out.trans (hbel.mono HB1.out.size))
        clear hbel
        go_wp2
        go_ret
        exact ⟨rfl, HB3.out⟩
end Go.Proofs.YtepbchaeeldjmaaDoor
