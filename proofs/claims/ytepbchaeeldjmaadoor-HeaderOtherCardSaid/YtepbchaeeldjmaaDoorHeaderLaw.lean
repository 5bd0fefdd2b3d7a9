/- The walks of the laws HeaderValid, HeaderDecode, HeaderFrame, and of Awake. -/
import Derived.Test.YtepbchaeeldjmaaDoorHeaderDec2
import Derived.Deep.RegionWith
namespace Go.Proofs.YtepbchaeeldjmaaDoor
open Go.RowKit

theorem hencF_first (h : Hdr) (t : Int) : (hencF h t)[0]? = some 1 := rfl
theorem hencF_seq : (hencF ((1 : Int), (2 : Int), (3 : Int), (4 : Int), (1 : Int), (0 : Int)) 80)[12]? = some 4 := by
  have e : hencF ((1 : Int), (2 : Int), (3 : Int), (4 : Int), (1 : Int), (0 : Int)) 80 = fbody 1 (hbytes ((1 : Int), (2 : Int), (3 : Int), (4 : Int), (1 : Int), (0 : Int))) ++ fsum 0 80 (fbody 1 (hbytes ((1 : Int), (2 : Int), (3 : Int), (4 : Int), (1 : Int), (0 : Int)))) := rfl
  rw [e, List.getElem?_append_left (by rw [fbody_len (by rw [hbytes_len]; decide)]; decide)]
  decide

set_option maxHeartbeats 1000000 in
theorem headerAwake_any (w : World) (ht : TabAt w) (h0 : 0 < w.heap.size) :
    Calls Tryd.prog 19 #[] w fun e' w' => e' = .returned (.bool true) ∧ Below w.heap.size w w' := by
  have HE : Hid (hencS ((1 : Int), (2 : Int), (3 : Int), (4 : Int), (1 : Int), (0 : Int)) 80 = (hencF ((1 : Int), (2 : Int), (3 : Int), (4 : Int), (1 : Int), (0 : Int)) 80, 0)) := hencS_ok (by decide) (by decide)
  have HD : Hid (hdec 80 (hencF ((1 : Int), (2 : Int), (3 : Int), (4 : Int), (1 : Int), (0 : Int)) 80) = some ((1 : Int), (2 : Int), (3 : Int), (4 : Int), (1 : Int), (0 : Int))) := hdec_enc (by decide) (by decide)
  have HF0 := Lib.hid (hencF_first ((1 : Int), (2 : Int), (3 : Int), (4 : Int), (1 : Int), (0 : Int)) 80)
  have HF12 := Lib.hid hencF_seq
  have HFL := Lib.hid (hencF_len ((1 : Int), (2 : Int), (3 : Int), (4 : Int), (1 : Int), (0 : Int)) 80)
  obtain ⟨fr, hfr⟩ : ∃ fr, hencF ((1 : Int), (2 : Int), (3 : Int), (4 : Int), (1 : Int), (0 : Int)) 80 = fr := ⟨_, rfl⟩
  rw [hfr] at HE HD HF0 HF12 HFL
  have HT : Hid (∀ w', Below w.heap.size w w' → TabAt w' ∧ 0 < w'.heap.size) := fun w' hw => ⟨ht.below hw h0, Nat.lt_of_lt_of_le h0 hw.size⟩
  clear hfr ht h0
  go_enter Tryd.func19, Tryd.ntmps19
  go_wp2_with fail
  refine (hencode_any 1 2 3 4 1 0 80 w (HT.out _ (Below.refl _ _)).1 (HT.out _ (Below.refl _ _)).2 _ HE.out).mono ?_
  rintro e' w1 ⟨A1, c1, rfl, hown, hbel⟩
  simp only [HFL.out] at hown ⊢
  obtain ⟨g, rfl⟩ := hown.head (by decide)
  obtain ⟨_, _, hv, hc1, hc2⟩ := hown.form
  injection hv with hv1 hv2 hv3
  subst hv3
  have HO1 := Lib.hid hown
  have HB1 := Lib.hid hbel
  clear hown hbel hv1 hv2
  go_wp2_with fail
  refine (hdecode_any 80 fr _ 64 c1 w1.heap.size w1 (HT.out _ HB1.out).1 (HT.out _ HB1.out).2 HO1.out.byt hc1 hc2 (Nat.le_refl _) _ HD.out).mono ?_
  rintro e' w2 ⟨rfl, hbel⟩
  have HO2 := Lib.hid (HO1.out.keep hbel)
  have HB2 := Lib.hid (HB1.out.trans (hbel.mono HB1.out.size))
  obtain ⟨b0, hb0, q0, _⟩ := HO2.out.at_ 0 (by decide)
  obtain ⟨b12, hb12, q12, _⟩ := HO2.out.at_ 12 (by decide)
  have e0 : b0 = 1 := by rw [HF0.out] at hb0; injection hb0 with hb0; exact hb0.symm
  have e12 : b12 = 4 := by rw [HF12.out] at hb12; injection hb12 with hb12; exact hb12.symm
  subst e0 e12
  have q0' : w2.cell? ⟨g, 0, none⟩ = some (.int .u8 1) := q0
  have q12' : w2.cell? ⟨g, 12, none⟩ = some (.int .u8 4) := q12
  have hgl : g < w2.heap.size := HO2.out.lt rfl
  have hgn : ¬ g = w2.heap.size := by omega
  clear hbel hb0 hb12 q0 q12
  simp only [Option.getD_some, Option.isSome_some, hagg]
  go_wp2
  go_ret
  exact ⟨rfl, HB2.out.alloc HB2.out.size _⟩

set_option maxHeartbeats 4000000 in
theorem headerValid_any (a b c d e f : Int) (w : World) (ht : TabAt w) (h0 : 0 < w.heap.size) :
    Calls Tryd.prog 7 #[.agg #[.int .i64 a, .int .i64 b, .int .i64 c, .int .i64 d, .int .i64 e, .int .i64 f]] w fun e' w' => e' = .returned (.bool true) ∧ Below w.heap.size w w' := by
  have HT : Hid (∀ w', Below w.heap.size w w' → TabAt w' ∧ 0 < w'.heap.size) := fun w' hw => ⟨ht.below hw h0, Nat.lt_of_lt_of_le h0 hw.size⟩
  have HB0 : Hid (Below w.heap.size w (w.alloc (.cells #[.int .i64 a, .int .i64 b, .int .i64 c, .int .i64 d, .int .i64 e, .int .i64 f] 41))) := (Below.refl _ _).alloc (Nat.le_refl _) _
  have HX0 : Hid (Box6 (w.alloc (.cells #[.int .i64 a, .int .i64 b, .int .i64 c, .int .i64 d, .int .i64 e, .int .i64 f] 41)).drew w.heap.size a b c d e f) := Box6.new w 41 a b c d e f
  have HD0 := Lib.hid (Below.drew HB0.out)
  clear ht h0
  cases hv : hvalid (a, b, c, d, e, f)
  all_goals
    have HV := Lib.hid (hvalid_any a b c d e f _ hv)
    have RV := Lib.hid (refHvalid_any a b c d e f _ hv)
    clear hv
    go_enter Tryd.func7, Tryd.ntmps7
    go_wp2_with fail
    go_region_with (first
      | (go_at_call 19; refine (headerAwake_any _ ?_ ?_).mono ?_; exact (HT.out _ HD0.out).1; exact (HT.out _ HD0.out).2; rintro e' w1 ⟨rfl, hbel⟩; have HB1 : Hid (Below w.heap.size w w1) := HD0.out.trans (hbel.mono HD0.out.size); have HX1 : Hid (Box6 w1 w.heap.size a b c d e f) := HX0.out.below (B := w.heap.size + 1) (hbel.mono (by simp)) (by omega); have hw1 : w.heap.size < w1.heap.size := (by have := hbel.size; simp at this; omega); clear hbel; obtain ⟨l0, l1, l2, l3, l4, l5⟩ := HX1.out)
      | (go_at_call 20; refine (HV.out _).mono ?_; rintro e' w2 ⟨rfl, hbel⟩; have HB2 : Hid (Below w.heap.size w w2) := HB1.out.trans (hbel.mono HB1.out.size); obtain ⟨m0, m1, m2, m3, m4, m5⟩ := HX1.out.below hbel hw1; clear hbel)
      | (go_at_call 21; refine (RV.out _).mono ?_; rintro e' w3 ⟨rfl, hbel⟩; have HB3 : Hid (Below w.heap.size w w3) := HB2.out.trans (hbel.mono HB2.out.size); clear hbel))
    all_goals (try go_wp2)
    all_goals (go_ret; exact ⟨rfl, HB3.out⟩)

set_option maxHeartbeats 4000000 in
theorem headerDecode_any (bs : List UInt8) (A : Option Addr) (n cap : Nat) (t : Int) (w : World) (ht : TabAt w) (h0 : 0 < w.heap.size) (hb : Byt w w.heap.size A n bs) (hn : n ≤ cap) (hcap : cap ≤ 9223372036854775807) :
    Calls Tryd.prog 9 #[.slice A n cap, .int .i64 t] w fun e' w' => e' = .returned (.bool true) ∧ Below w.heap.size w w' := by
  have HT : Hid (∀ w', Below w.heap.size w w' → TabAt w' ∧ 0 < w'.heap.size) := fun w' hw => ⟨ht.below hw h0, Nat.lt_of_lt_of_le h0 hw.size⟩
  obtain ⟨m, hmin, hmn, _, _, _⟩ := min_pick n 70
  have HMIN := Lib.hid hmin
  have HB : Hid (∀ w', Below w.heap.size w w' → Byt w' w.heap.size A m (bs.take m)) := fun w' hw => (hb.take hmn).below hw
  obtain ⟨p, hp⟩ : ∃ p, bs.take m = p := ⟨_, rfl⟩
  rw [hp] at HB
  have HB0 := Lib.hid (Below.refl w.heap.size w)
  clear hb ht h0 hp hmin
  rcases hr : hdec t p with _ | ⟨a, b, c, d, e, f⟩
  · have HR := Lib.hid hr
    clear hr
    go_enter Tryd.func9, Tryd.ntmps9
    go_wp2_with (refine wpList_min rfl _ _ rfl (p := (n : Int)) (q := 70) (m := (m : Int)) ?_ ?_ ?_ ?_; rfl; rfl; exact HMIN.out)
    refine (hdecode_any t p A m cap w.heap.size w (HT.out _ HB0.out).1 (HT.out _ HB0.out).2 (HB.out _ HB0.out) (by omega) hcap (HB0.out.size) _ HR.out).mono ?_
    rintro e' w5 ⟨rfl, hbel⟩
    have HB5 : Hid (Below w.heap.size w w5) := HB0.out.trans (hbel.mono HB0.out.size)
    simp only [Option.getD_none, Option.isSome_none, hagg]
    clear hbel
    go_wp2_with fail
    have HB6 := Lib.hid (HB5.out.alloc HB5.out.size (.cells #[.int .i64 0, .int .i64 0, .int .i64 0, .int .i64 0, .int .i64 0, .int .i64 0] 41))
    have HX6 := Lib.hid (Box6.new w5 41 0 0 0 0 0 0)
    refine (refHdecode_any t p A m cap w.heap.size _ (HT.out _ HB6.out).2 (HB.out _ HB6.out) (by omega) hcap (HB6.out.size) _ HR.out).mono ?_
    rintro e' w7 ⟨rfl, hbel⟩
    have HB7 : Hid (Below w.heap.size w w7) := HB6.out.trans (hbel.mono HB6.out.size)
    have HX7 : Hid (Box6 w7 w5.heap.size 0 0 0 0 0 0) := HX6.out.below (B := w5.heap.size + 1) (hbel.mono (by simp)) (by omega)
    have hw7 : w5.heap.size < w7.heap.size := by have := hbel.size; simp at this; omega
    simp only [Option.getD_none, Option.isSome_none, hagg]
    clear hbel
    go_wp2_with fail
    have HB8 := Lib.hid (HB7.out.alloc HB7.out.size (.cells #[.int .i64 0, .int .i64 0, .int .i64 0, .int .i64 0, .int .i64 0, .int .i64 0] 41))
    have HX8 := Lib.hid (Box6.new w7 41 0 0 0 0 0 0)
    have HY8 : Hid (Box6 (w7.alloc (.cells #[.int .i64 0, .int .i64 0, .int .i64 0, .int .i64 0, .int .i64 0, .int .i64 0] 41)) w5.heap.size 0 0 0 0 0 0) := HX7.out.below (B := w7.heap.size) ((Below.refl _ _).alloc (Nat.le_refl _) _) hw7
    refine (headerAwake_any _ (HT.out _ HB8.out).1 (HT.out _ HB8.out).2).mono ?_
    rintro e' w9 ⟨rfl, hbel⟩
    have HB9 : Hid (Below w.heap.size w w9) := HB8.out.trans (hbel.mono HB8.out.size)
    obtain ⟨l0, l1, l2, l3, l4, l5⟩ := HX8.out.below (B := w7.heap.size + 1) (hbel.mono (by simp)) (by omega)
    obtain ⟨m0, m1, m2, m3, m4, m5⟩ := HY8.out.below (B := w7.heap.size + 1) (hbel.mono (by simp)) (by omega)
    clear hbel
    go_wp2
    go_ret
    exact ⟨rfl, HB9.out⟩
  · have HR := Lib.hid hr
    clear hr
    go_enter Tryd.func9, Tryd.ntmps9
    go_wp2_with (refine wpList_min rfl _ _ rfl (p := (n : Int)) (q := 70) (m := (m : Int)) ?_ ?_ ?_ ?_; rfl; rfl; exact HMIN.out)
    refine (hdecode_any t p A m cap w.heap.size w (HT.out _ HB0.out).1 (HT.out _ HB0.out).2 (HB.out _ HB0.out) (by omega) hcap (HB0.out.size) _ HR.out).mono ?_
    rintro e' w5 ⟨rfl, hbel⟩
    have HB5 : Hid (Below w.heap.size w w5) := HB0.out.trans (hbel.mono HB0.out.size)
    simp only [Option.getD_some, Option.isSome_some, hagg]
    clear hbel
    go_wp2_with fail
    have HB6 := Lib.hid (HB5.out.alloc HB5.out.size (.cells #[.int .i64 a, .int .i64 b, .int .i64 c, .int .i64 d, .int .i64 e, .int .i64 f] 41))
    have HX6 := Lib.hid (Box6.new w5 41 a b c d e f)
    refine (refHdecode_any t p A m cap w.heap.size _ (HT.out _ HB6.out).2 (HB.out _ HB6.out) (by omega) hcap (HB6.out.size) _ HR.out).mono ?_
    rintro e' w7 ⟨rfl, hbel⟩
    have HB7 : Hid (Below w.heap.size w w7) := HB6.out.trans (hbel.mono HB6.out.size)
    have HX7 : Hid (Box6 w7 w5.heap.size a b c d e f) := HX6.out.below (B := w5.heap.size + 1) (hbel.mono (by simp)) (by omega)
    have hw7 : w5.heap.size < w7.heap.size := by have := hbel.size; simp at this; omega
    simp only [Option.getD_some, Option.isSome_some, hagg]
    clear hbel
    go_wp2_with fail
    have HB8 := Lib.hid (HB7.out.alloc HB7.out.size (.cells #[.int .i64 a, .int .i64 b, .int .i64 c, .int .i64 d, .int .i64 e, .int .i64 f] 41))
    have HX8 := Lib.hid (Box6.new w7 41 a b c d e f)
    have HY8 : Hid (Box6 (w7.alloc (.cells #[.int .i64 a, .int .i64 b, .int .i64 c, .int .i64 d, .int .i64 e, .int .i64 f] 41)) w5.heap.size a b c d e f) := HX7.out.below (B := w7.heap.size) ((Below.refl _ _).alloc (Nat.le_refl _) _) hw7
    refine (headerAwake_any _ (HT.out _ HB8.out).1 (HT.out _ HB8.out).2).mono ?_
    rintro e' w9 ⟨rfl, hbel⟩
    have HB9 : Hid (Below w.heap.size w w9) := HB8.out.trans (hbel.mono HB8.out.size)
    obtain ⟨l0, l1, l2, l3, l4, l5⟩ := HX8.out.below (B := w7.heap.size + 1) (hbel.mono (by simp)) (by omega)
    obtain ⟨m0, m1, m2, m3, m4, m5⟩ := HY8.out.below (B := w7.heap.size + 1) (hbel.mono (by simp)) (by omega)
    clear hbel
    go_wp2
    go_ret
    exact ⟨rfl, HB9.out⟩

set_option maxHeartbeats 4000000 in
theorem headerFrame_any (bs : List UInt8) (A : Option Addr) (n cap : Nat) (t : Int) (w : World) (ht : TabAt w) (h0 : 0 < w.heap.size) (hb : Byt w w.heap.size A n bs) (hn : n ≤ cap) (_hcap : cap ≤ 9223372036854775807) :
    Calls Tryd.prog 10 #[.slice A n cap, .int .i64 t] w fun e' w' => e' = .returned (.bool true) ∧ Below w.heap.size w w' := by
  have HT : Hid (∀ w', Below w.heap.size w w' → TabAt w' ∧ 0 < w'.heap.size) := fun w' hw => ⟨ht.below hw h0, Nat.lt_of_lt_of_le h0 hw.size⟩
  obtain ⟨m, hmin, hmn, hm59, _, _⟩ := min_pick n 59
  have HMIN := Lib.hid hmin
  have HB : Hid (∀ w', Below w.heap.size w w' → Byt w' w.heap.size A m (bs.take m)) := fun w' hw => (hb.take hmn).below hw
  have hpl : (bs.take m).length = m := (hb.take hmn).len
  obtain ⟨p, hp⟩ : ∃ p, bs.take m = p := ⟨_, rfl⟩
  rw [hp] at HB hpl
  have HB0 := Lib.hid (Below.refl w.heap.size w)
  clear hb ht h0 hp hmin
  cases hm : may 1 0 t
  · have HE : Hid (encS 1 0 t p = ([], 2)) := by show encS _ _ _ _ = _; unfold encS; rw [hm]; rfl
    clear hm
    go_enter Tryd.func10, Tryd.ntmps10
    go_wp2_with (refine wpList_min rfl _ _ rfl (p := (n : Int)) (q := 59) (m := (m : Int)) ?_ ?_ ?_ ?_; rfl; rfl; exact HMIN.out)
    refine (encode_any 1 0 t p A m cap w.heap.size w (HT.out _ HB0.out).1 (HT.out _ HB0.out).2 (HB.out _ HB0.out) (by omega) (Nat.le_refl _) (by decide) _ HE.out).mono ?_
    rintro e' w1 ⟨A1, c1, rfl, hown, hbel⟩
    have HB1 := Lib.hid hbel
    clear hown hbel
    go_wp2_with fail
    refine (headerAwake_any _ (HT.out _ HB1.out).1 (HT.out _ HB1.out).2).mono ?_
    rintro e' w9 ⟨rfl, hbel⟩
    have HB9 : Hid (Below w.heap.size w w9) := HB1.out.trans (hbel.mono HB1.out.size)
    clear hbel
    go_wp2
    go_ret
    exact ⟨rfl, HB9.out⟩
  · have HE : Hid (encS 1 0 t p = (frame 1 0 t.toNat p, 0)) := by show encS _ _ _ _ = _; unfold encS; rw [if_pos hm, if_pos (by omega)]; rfl
    have HFL : Hid ((frame 1 0 t.toNat p).length = 64) := frame_len (by omega)
    obtain ⟨fr, hfr⟩ : ∃ fr, frame 1 0 t.toNat p = fr := ⟨_, rfl⟩
    rw [hfr] at HE HFL
    clear hfr hm
    rcases hr : hdec t fr with _ | ⟨a, b, c, d, e, f⟩
    · have HR := Lib.hid hr
      clear hr
      go_enter Tryd.func10, Tryd.ntmps10
      go_wp2_with (refine wpList_min rfl _ _ rfl (p := (n : Int)) (q := 59) (m := (m : Int)) ?_ ?_ ?_ ?_; rfl; rfl; exact HMIN.out)
      refine (encode_any 1 0 t p A m cap w.heap.size w (HT.out _ HB0.out).1 (HT.out _ HB0.out).2 (HB.out _ HB0.out) (by omega) (Nat.le_refl _) (by decide) _ HE.out).mono ?_
      rintro e' w1 ⟨A1, c1, rfl, hown, hbel⟩
      simp only [HFL.out] at hown ⊢
      obtain ⟨g, rfl⟩ := hown.head (by decide)
      obtain ⟨_, _, hv, hc1, hc2⟩ := hown.form
      injection hv with hv1 hv2 hv3
      subst hv3
      have HB1 := Lib.hid hbel
      have HO1 := Lib.hid hown
      clear hown hbel hv1 hv2
      go_wp2_with fail
      refine (hdecode_any t fr (some ⟨g, 0, none⟩) 64 c1 w1.heap.size w1 (HT.out _ HB1.out).1 (HT.out _ HB1.out).2 (HO1.out.byt) hc1 hc2 (Nat.le_refl _) _ HR.out).mono ?_
      rintro e' w5 ⟨rfl, hbel⟩
      have HB5 : Hid (Below w.heap.size w w5) := HB1.out.trans (hbel.mono HB1.out.size)
      have HO5 := Lib.hid (HO1.out.keep hbel)
      simp only [Option.getD_none, Option.isSome_none, hagg]
      clear hbel
      go_wp2_with fail
      have HB6 := Lib.hid (HB5.out.alloc HB5.out.size (.cells #[.int .i64 0, .int .i64 0, .int .i64 0, .int .i64 0, .int .i64 0, .int .i64 0] 41))
      have HX6 := Lib.hid (Box6.new w5 41 0 0 0 0 0 0)
      have HO6 : Hid (Own (w5.alloc (.cells #[.int .i64 0, .int .i64 0, .int .i64 0, .int .i64 0, .int .i64 0, .int .i64 0] 41)) w.heap.size 5 (.slice (some ⟨g, 0, none⟩) 64 c1) 64 fr) := HO5.out.keep ((Below.refl _ _).alloc (Nat.le_refl _) _)
      refine (refHdecode_any t fr (some ⟨g, 0, none⟩) 64 c1 (w5.alloc (.cells #[.int .i64 0, .int .i64 0, .int .i64 0, .int .i64 0, .int .i64 0, .int .i64 0] 41)).heap.size _ (HT.out _ HB6.out).2 (HO6.out.byt) hc1 hc2 (Nat.le_refl _) _ HR.out).mono ?_
      rintro e' w7 ⟨rfl, hbel⟩
      have HB7 : Hid (Below w.heap.size w w7) := HB6.out.trans (hbel.mono HB6.out.size)
      have HX7 : Hid (Box6 w7 w5.heap.size 0 0 0 0 0 0) := HX6.out.below (B := w5.heap.size + 1) (hbel.mono (by simp)) (by omega)
      have hw7 : w5.heap.size < w7.heap.size := by have := hbel.size; simp at this; omega
      simp only [Option.getD_none, Option.isSome_none, hagg]
      clear hbel
      go_wp2_with fail
      have HB8 := Lib.hid (HB7.out.alloc HB7.out.size (.cells #[.int .i64 0, .int .i64 0, .int .i64 0, .int .i64 0, .int .i64 0, .int .i64 0] 41))
      have HX8 := Lib.hid (Box6.new w7 41 0 0 0 0 0 0)
      have HY8 : Hid (Box6 (w7.alloc (.cells #[.int .i64 0, .int .i64 0, .int .i64 0, .int .i64 0, .int .i64 0, .int .i64 0] 41)) w5.heap.size 0 0 0 0 0 0) := HX7.out.below (B := w7.heap.size) ((Below.refl _ _).alloc (Nat.le_refl _) _) hw7
      refine (headerAwake_any _ (HT.out _ HB8.out).1 (HT.out _ HB8.out).2).mono ?_
      rintro e' w9 ⟨rfl, hbel⟩
      have HB9 : Hid (Below w.heap.size w w9) := HB8.out.trans (hbel.mono HB8.out.size)
      obtain ⟨l0, l1, l2, l3, l4, l5⟩ := HX8.out.below (B := w7.heap.size + 1) (hbel.mono (by simp)) (by omega)
      obtain ⟨m0, m1, m2, m3, m4, m5⟩ := HY8.out.below (B := w7.heap.size + 1) (hbel.mono (by simp)) (by omega)
      clear hbel
      go_wp2
      go_ret
      exact ⟨rfl, HB9.out⟩
    · have HR := Lib.hid hr
      clear hr
      go_enter Tryd.func10, Tryd.ntmps10
      go_wp2_with (refine wpList_min rfl _ _ rfl (p := (n : Int)) (q := 59) (m := (m : Int)) ?_ ?_ ?_ ?_; rfl; rfl; exact HMIN.out)
      refine (encode_any 1 0 t p A m cap w.heap.size w (HT.out _ HB0.out).1 (HT.out _ HB0.out).2 (HB.out _ HB0.out) (by omega) (Nat.le_refl _) (by decide) _ HE.out).mono ?_
      rintro e' w1 ⟨A1, c1, rfl, hown, hbel⟩
      simp only [HFL.out] at hown ⊢
      obtain ⟨g, rfl⟩ := hown.head (by decide)
      obtain ⟨_, _, hv, hc1, hc2⟩ := hown.form
      injection hv with hv1 hv2 hv3
      subst hv3
      have HB1 := Lib.hid hbel
      have HO1 := Lib.hid hown
      clear hown hbel hv1 hv2
      go_wp2_with fail
      refine (hdecode_any t fr (some ⟨g, 0, none⟩) 64 c1 w1.heap.size w1 (HT.out _ HB1.out).1 (HT.out _ HB1.out).2 (HO1.out.byt) hc1 hc2 (Nat.le_refl _) _ HR.out).mono ?_
      rintro e' w5 ⟨rfl, hbel⟩
      have HB5 : Hid (Below w.heap.size w w5) := HB1.out.trans (hbel.mono HB1.out.size)
      have HO5 := Lib.hid (HO1.out.keep hbel)
      simp only [Option.getD_some, Option.isSome_some, hagg]
      clear hbel
      go_wp2_with fail
      have HB6 := Lib.hid (HB5.out.alloc HB5.out.size (.cells #[.int .i64 a, .int .i64 b, .int .i64 c, .int .i64 d, .int .i64 e, .int .i64 f] 41))
      have HX6 := Lib.hid (Box6.new w5 41 a b c d e f)
      have HO6 : Hid (Own (w5.alloc (.cells #[.int .i64 a, .int .i64 b, .int .i64 c, .int .i64 d, .int .i64 e, .int .i64 f] 41)) w.heap.size 5 (.slice (some ⟨g, 0, none⟩) 64 c1) 64 fr) := HO5.out.keep ((Below.refl _ _).alloc (Nat.le_refl _) _)
      refine (refHdecode_any t fr (some ⟨g, 0, none⟩) 64 c1 (w5.alloc (.cells #[.int .i64 a, .int .i64 b, .int .i64 c, .int .i64 d, .int .i64 e, .int .i64 f] 41)).heap.size _ (HT.out _ HB6.out).2 (HO6.out.byt) hc1 hc2 (Nat.le_refl _) _ HR.out).mono ?_
      rintro e' w7 ⟨rfl, hbel⟩
      have HB7 : Hid (Below w.heap.size w w7) := HB6.out.trans (hbel.mono HB6.out.size)
      have HX7 : Hid (Box6 w7 w5.heap.size a b c d e f) := HX6.out.below (B := w5.heap.size + 1) (hbel.mono (by simp)) (by omega)
      have hw7 : w5.heap.size < w7.heap.size := by have := hbel.size; simp at this; omega
      simp only [Option.getD_some, Option.isSome_some, hagg]
      clear hbel
      go_wp2_with fail
      have HB8 := Lib.hid (HB7.out.alloc HB7.out.size (.cells #[.int .i64 a, .int .i64 b, .int .i64 c, .int .i64 d, .int .i64 e, .int .i64 f] 41))
      have HX8 := Lib.hid (Box6.new w7 41 a b c d e f)
      have HY8 : Hid (Box6 (w7.alloc (.cells #[.int .i64 a, .int .i64 b, .int .i64 c, .int .i64 d, .int .i64 e, .int .i64 f] 41)) w5.heap.size a b c d e f) := HX7.out.below (B := w7.heap.size) ((Below.refl _ _).alloc (Nat.le_refl _) _) hw7
      refine (headerAwake_any _ (HT.out _ HB8.out).1 (HT.out _ HB8.out).2).mono ?_
      rintro e' w9 ⟨rfl, hbel⟩
      have HB9 : Hid (Below w.heap.size w w9) := HB8.out.trans (hbel.mono HB8.out.size)
      obtain ⟨l0, l1, l2, l3, l4, l5⟩ := HX8.out.below (B := w7.heap.size + 1) (hbel.mono (by simp)) (by omega)
      obtain ⟨m0, m1, m2, m3, m4, m5⟩ := HY8.out.below (B := w7.heap.size + 1) (hbel.mono (by simp)) (by omega)
      clear hbel
      go_wp2
      go_ret
      exact ⟨rfl, HB9.out⟩

end Go.Proofs.YtepbchaeeldjmaaDoor
