/- The walks of plan.Encode and of the reference's Encode of plan records. -/
import Derived.Test.YthjnbdbbeidhgaaDoorPlanLay
namespace Go.Proofs.YthjnbdbbeidhgaaDoor
open Go.RowKit

theorem pnats {k m i t a b c d : Int} (h : pvalid (k, m, i, t, a, b, c, d) = true) : ∃ (x y : UInt8) (mn tn : Nat), k = (x.toNat : Int) ∧ i = (y.toNat : Int) ∧ m = (mn : Int) ∧ t = (tn : Int) ∧ mn ≤ 4294967295 ∧ tn ≤ 281474976710655 ∧ LayOk a b c d ∧ pbytes (k, m, i, t, a, b, c, d) = pbody x y mn tn (lbytes a b c d) := by
  rw [pvalid_iff] at h
  obtain ⟨m1, m2, t1, t2, hf, hk⟩ := h
  refine ⟨UInt8.ofNat k.toNat, UInt8.ofNat i.toNat, m.toNat, t.toNat, ?_, ?_, ?_, ?_, ?_, ?_, .inl hf, rfl⟩ <;> (try simp only [UInt8.toNat_ofNat']) <;> omega

set_option maxHeartbeats 2000000 in
theorem pencode_any (k m i t a b c d sc : Int) (ha : I64 a) (hb : I64 b) (hc : I64 c) (hd : I64 d) (w : World) (ht : TabAt w) (h0 : 0 < w.heap.size) (r : List UInt8 × Int) (hr : pencS (k, m, i, t, a, b, c, d) sc = r) :
    Calls Tryd.prog 9 #[.agg #[.int .i64 k, .int .i64 m, .int .i64 i, .int .i64 t, .int .i64 a, .int .i64 b, .int .i64 c, .int .i64 d], .int .i64 sc] w (EncRes r w) := by
  have HT : Hid (∀ w', Below w.heap.size w w' → TabAt w' ∧ 0 < w'.heap.size) := fun w' hw => ⟨ht.below hw h0, Nat.lt_of_lt_of_le h0 hw.size⟩
  clear ht h0
  cases hv : pvalid (k, m, i, t, a, b, c, d)
  · have HV := Lib.hid (pvalid_any k m i t a b c d ha hb hc hd false hv)
    obtain rfl : r = ([], 4) := by rw [← hr, pencS_bad hv]
    clear hv hr
    go_enter Tryd.func9, Tryd.ntmps9
    go_wp2_with (go_at_call 10; refine (HV.out _).mono ?_; rintro e' w1 ⟨rfl, hbel⟩; have HB1 : Hid (Below w.heap.size w w1) := ((Below.refl _ _).alloc (Nat.le_refl _) _).trans (hbel.mono (by simp)); clear hbel)
    go_ret2
    exact ⟨none, 0, rfl, Own.nil _ _ _, HB1.out⟩
  · have HV := Lib.hid (pvalid_any k m i t a b c d ha hb hc hd true hv)
    obtain ⟨x, y, m, t, rfl, rfl, rfl, rfl, hm, hts, hl, hby⟩ := pnats hv
    have HE : Hid (encS 4 0 sc (pbody x y m t (lbytes a b c d)) = r) := by show _ = _; rw [← hr, pencS, if_pos hv, hby]
    clear hv hr hby ha hb hc hd
    have hx := x.toNat_lt
    have hy := y.toNat_lt
    have HL := Lib.hid hl
    clear hl
    have wx : IntKind.u8.wrap (x.toNat : Int) = (x.toNat : Int) := IntWalk.u8_in _ (by omega)
    have wy : IntKind.u8.wrap (y.toNat : Int) = (y.toNat : Int) := IntWalk.u8_in _ (by omega)
    have wt : IntKind.u64.wrap (t : Int) = (t : Int) := IntWalk.u64_in _ (by omega)
    have HB0 : Hid (Below w.heap.size w (w.alloc (.cells #[.int .i64 (x.toNat : Int), .int .i64 (m : Int), .int .i64 (y.toNat : Int), .int .i64 (t : Int), .int .i64 a, .int .i64 b, .int .i64 c, .int .i64 d] 25))) := (Below.refl _ _).alloc (Nat.le_refl _) _
    have HX0 := Lib.hid (Cells.new w 25 #[.int .i64 (x.toNat : Int), .int .i64 (m : Int), .int .i64 (y.toNat : Int), .int .i64 (t : Int), .int .i64 a, .int .i64 b, .int .i64 c, .int .i64 d])
    go_enter Tryd.func9, Tryd.ntmps9
    go_wp2_with (go_at_call 10; refine (HV.out _).mono ?_; rintro e' w1 ⟨rfl, hbel⟩; have HB1 : Hid (Below w.heap.size w w1) := HB0.out.trans (hbel.mono HB0.out.size); have HX1 := Lib.hid (HX0.out.below hbel (by simp)); have hw1 : w.heap.size < w1.heap.size := (by have := hbel.size; simp at this; omega); have l0 := HX1.out 0 _ rfl; have l1 := HX1.out 1 _ rfl; clear hbel)
    have HBL : Hid (Below w.heap.size w (w1.alloc (.cells #[.int .u8 (x.toNat : Int)] 5))) := HB1.out.alloc HB1.out.size _
    have HXL : Hid (Cells (w1.alloc (.cells #[.int .u8 (x.toNat : Int)] 5)) w.heap.size #[.int .i64 (x.toNat : Int), .int .i64 (m : Int), .int .i64 (y.toNat : Int), .int .i64 (t : Int), .int .i64 a, .int .i64 b, .int .i64 c, .int .i64 d].toList) := HX1.out.below ((Below.refl w1.heap.size w1).alloc (Nat.le_refl _) (.cells #[.int .u8 (x.toNat : Int)] 5)) hw1
    have HBY : Hid (Byt (w1.alloc (.cells #[.int .u8 (x.toNat : Int)] 5)) (w1.heap.size + 1) (some ⟨w1.heap.size, 0, none⟩) 1 [x]) := by
      have h := Byt.new w1 #[.int .u8 (x.toNat : Int)] 5 (0, 0) [x] rfl
      exact h
    have hws : (w1.alloc (.cells #[.int .u8 (x.toNat : Int)] 5)).heap.size = w1.heap.size + 1 := by simp
    have hS1 : w.heap.size < w1.heap.size := by exact hw1
    have hS2 : w.heap.size ≤ w1.heap.size := by omega
    refine (put_any [x] _ 1 _ (w1.heap.size + 1) m 4 (w1.alloc (.cells #[.int .u8 (x.toNat : Int)] 5)) HBY.out (by decide) (Nat.le_of_eq hws.symm) (by decide) (by decide)).mono ?_
    rw [show putB ([x]) m 4 = [x] ++ be 4 m from rfl]
    have hpl : ([x] ++ be 4 m).length = 5 := by simp [be_len]
    rintro e' w2 ⟨A2, c2, rfl, hown, hbel⟩
    rw [hpl] at hown ⊢
    have HO2 : Hid (Own w2 w1.heap.size 5 (.slice A2 5 c2) 5 ([x] ++ be 4 m)) := hown.mono (by rw [hws]; omega)
    have HB2 := Lib.hid (HBL.out.trans (hbel.mono HBL.out.size))
    have HX2 := Lib.hid (HXL.out.below hbel (by rw [hws]; omega))
    have hw2 : w1.heap.size < w2.heap.size := by have := hbel.size; rw [hws] at this; omega
    clear hown hbel hpl
    have q2 := HX2.out 2 _ rfl
    have q3 := HX2.out 3 _ rfl
    go_wp2_with fail
    go_region_held3 (fun w' => w'.cell? ⟨w.heap.size, 2, none⟩ = some (.int .i64 (y.toNat : Int)) ∧ w'.cell? ⟨w.heap.size, 3, none⟩ = some (.int .i64 (t : Int))) (go_keep) (first
      | (refine step_append_byt rfl Tryd.u8w (.tmp 18) (.tmp 22) rfl rfl (HO2.out.keep (Below.drew (Below.alloc (Below.refl _ _) (Nat.le_refl _) _))) rfl (Byt.drew (Byt.new w2 #[.int .u8 (y.toNat : Int)] _ (0, 0) [y] rfl)) ?_ ?_ ?_; decide; (simp; omega); intro A3 c3 w3 hown3 hbel3; have HO3 := Lib.hid hown3; have HB3 : Hid (Below w.heap.size w w3) := Below.trans (Below.drew (HB2.out.alloc HB2.out.size _)) (hbel3.mono hS2); have HX3 := Lib.hid (HX2.out.below (Below.trans (Below.drew (Below.alloc (Below.refl w1.heap.size w2) (by omega) _)) hbel3) hS1); have n2 := HX3.out 2 _ rfl; have n3 := HX3.out 3 _ rfl; have hw3 : w.heap.size < w3.heap.size := (by have := hbel3.size; simp at this; omega); clear hown3 hbel3)
      | (go_at_call 30; refine (put_any (([x] ++ be 4 m) ++ [y]) _ (5 + 1) c3 _ t 6 w3 HO3.out.byt (by decide) (Nat.le_refl _) (by decide) (by decide)).mono ?_; rw [show putB (([x] ++ be 4 m) ++ [y]) t 6 = ([x] ++ be 4 m) ++ [y] ++ be 6 t from rfl]; have hpl : (([x] ++ be 4 m) ++ [y] ++ be 6 t).length = 12 := (by simp [be_len]); rintro e' w4 ⟨A4, c4, rfl, hown4, hbel4⟩; rw [hpl] at hown4 ⊢; have HO4 := Lib.hid hown4; have HB4 := Lib.hid (HB3.out.trans (hbel4.mono HB3.out.size)); have HX4 := Lib.hid (HX3.out.below hbel4 hw3); have hw4 : w.heap.size < w4.heap.size := Nat.lt_of_lt_of_le hw3 hbel4.size; have m2 := HX4.out 2 _ rfl; have m3 := HX4.out 3 _ rfl; have hz34 := hbel4.size; clear hown4 hbel4 hpl))
    all_goals
      have r4 := HX4.out 4 _ rfl
      have r5 := HX4.out 5 _ rfl
      have r6 := HX4.out 6 _ rfl
      have r7 := HX4.out 7 _ rfl
      go_wp2_with fail
      refine (lay_any a b c d (([x] ++ be 4 m) ++ [y] ++ be 6 t) A4 12 c4 w4.heap.size w4 HL.out HO4.out.byt (by decide) (Nat.le_refl _)).mono ?_
      rw [show (([x] ++ be 4 m) ++ [y] ++ be 6 t) ++ lbytes a b c d = pbody x y m t (lbytes a b c d) from rfl]
      have hpl : (pbody x y m t (lbytes a b c d)).length = 19 := by simp [pbody, be_len, lbytes_len]
      rintro e' w5 ⟨A5, c5, rfl, hown, hbel⟩
      rw [hpl] at hown ⊢
      have HO5 := Lib.hid hown
      have HB5 := Lib.hid (HB4.out.trans (hbel.mono HB4.out.size))
      clear hown hbel hpl r4 r5 r6 r7 q2 q3 m2 m3
      go_wp2_with fail
      refine (encode_any 4 0 sc (pbody x y m t (lbytes a b c d)) _ 19 c5 w5.heap.size w5 (HT.out _ HB5.out).1 (HT.out _ HB5.out).2 HO5.out.byt (by decide) (Nat.le_refl _) (by decide) r HE.out).mono ?_
      rintro e' w6 ⟨A6, c6, rfl, hown, hbel⟩
      have HO6 := Lib.hid hown
      have HB6 := Lib.hid (HB5.out.trans (hbel.mono HB5.out.size))
      clear hown hbel
      go_wp2_with fail
      go_ret2
      exact ⟨A6, c6, rfl, HO6.out.mono HB5.out.size, HB6.out⟩

set_option maxHeartbeats 2000000 in
theorem refPencode_any (k m i t a b c d : Int) (sc : Nat) (w : World) (hv : pvalid (k, m, i, t, a, b, c, d) = true) (hsc : sc < 1048576) (r : List UInt8) (hr : pencF (k, m, i, t, a, b, c, d) sc = r) :
    Calls Tryd.prog 15 #[.agg #[.int .i64 k, .int .i64 m, .int .i64 i, .int .i64 t, .int .i64 a, .int .i64 b, .int .i64 c, .int .i64 d], .int .i64 (sc : Int)] w (PutRes w.heap.size r w) := by
  obtain ⟨x, y, m, t, rfl, rfl, rfl, rfl, hm, hts, hl, hby⟩ := pnats hv
  have HE : Hid (frame (4 : UInt8).toNat 0 sc (pbody x y m t (lbytes a b c d)) = r) := by show _ = _; rw [← hr, pencF, hby, show (4 : UInt8).toNat = 4 from rfl, Int.toNat_natCast]
  clear hv hr hby
  have hx := x.toNat_lt
  have hy := y.toNat_lt
  have HL := Lib.hid hl
  clear hl
  have wx : IntKind.u8.wrap (x.toNat : Int) = (x.toNat : Int) := IntWalk.u8_in _ (by omega)
  have wy : IntKind.u8.wrap (y.toNat : Int) = (y.toNat : Int) := IntWalk.u8_in _ (by omega)
  have wt : IntKind.u64.wrap (t : Int) = (t : Int) := IntWalk.u64_in _ (by omega)
  have HB0 : Hid (Below w.heap.size w (w.alloc (.cells #[.int .i64 (x.toNat : Int), .int .i64 (m : Int), .int .i64 (y.toNat : Int), .int .i64 (t : Int), .int .i64 a, .int .i64 b, .int .i64 c, .int .i64 d] 25))) := (Below.refl _ _).alloc (Nat.le_refl _) _
  have HX0 := Lib.hid (Cells.new w 25 #[.int .i64 (x.toNat : Int), .int .i64 (m : Int), .int .i64 (y.toNat : Int), .int .i64 (t : Int), .int .i64 a, .int .i64 b, .int .i64 c, .int .i64 d])
  go_enter Tryd.func15, Tryd.ntmps15
  go_wp2_with fail
  have HB1 := HB0
  have HX1 := HX0
  have hw1 : w.heap.size < (w.alloc (.cells #[.int .i64 (x.toNat : Int), .int .i64 (m : Int), .int .i64 (y.toNat : Int), .int .i64 (t : Int), .int .i64 a, .int .i64 b, .int .i64 c, .int .i64 d] 25)).heap.size := by simp
  have HBL : Hid (Below w.heap.size w ((w.alloc (.cells #[.int .i64 (x.toNat : Int), .int .i64 (m : Int), .int .i64 (y.toNat : Int), .int .i64 (t : Int), .int .i64 a, .int .i64 b, .int .i64 c, .int .i64 d] 25)).alloc (.cells #[.int .u8 (x.toNat : Int)] 5))) := HB1.out.alloc HB1.out.size _
  have HXL : Hid (Cells ((w.alloc (.cells #[.int .i64 (x.toNat : Int), .int .i64 (m : Int), .int .i64 (y.toNat : Int), .int .i64 (t : Int), .int .i64 a, .int .i64 b, .int .i64 c, .int .i64 d] 25)).alloc (.cells #[.int .u8 (x.toNat : Int)] 5)) w.heap.size #[.int .i64 (x.toNat : Int), .int .i64 (m : Int), .int .i64 (y.toNat : Int), .int .i64 (t : Int), .int .i64 a, .int .i64 b, .int .i64 c, .int .i64 d].toList) := HX1.out.below ((Below.refl (w.alloc (.cells #[.int .i64 (x.toNat : Int), .int .i64 (m : Int), .int .i64 (y.toNat : Int), .int .i64 (t : Int), .int .i64 a, .int .i64 b, .int .i64 c, .int .i64 d] 25)).heap.size (w.alloc (.cells #[.int .i64 (x.toNat : Int), .int .i64 (m : Int), .int .i64 (y.toNat : Int), .int .i64 (t : Int), .int .i64 a, .int .i64 b, .int .i64 c, .int .i64 d] 25))).alloc (Nat.le_refl _) (.cells #[.int .u8 (x.toNat : Int)] 5)) hw1
  have HBY : Hid (Byt ((w.alloc (.cells #[.int .i64 (x.toNat : Int), .int .i64 (m : Int), .int .i64 (y.toNat : Int), .int .i64 (t : Int), .int .i64 a, .int .i64 b, .int .i64 c, .int .i64 d] 25)).alloc (.cells #[.int .u8 (x.toNat : Int)] 5)) ((w.heap.size + 1) + 1) (some ⟨(w.heap.size + 1), 0, none⟩) 1 [x]) := by
    have h := Byt.new (w.alloc (.cells #[.int .i64 (x.toNat : Int), .int .i64 (m : Int), .int .i64 (y.toNat : Int), .int .i64 (t : Int), .int .i64 a, .int .i64 b, .int .i64 c, .int .i64 d] 25)) #[.int .u8 (x.toNat : Int)] 5 (0, 0) [x] rfl
    rw [World.size_alloc] at h
    exact h
  have hws : ((w.alloc (.cells #[.int .i64 (x.toNat : Int), .int .i64 (m : Int), .int .i64 (y.toNat : Int), .int .i64 (t : Int), .int .i64 a, .int .i64 b, .int .i64 c, .int .i64 d] 25)).alloc (.cells #[.int .u8 (x.toNat : Int)] 5)).heap.size = (w.heap.size + 1) + 1 := by simp
  have hS1 : w.heap.size < (w.heap.size + 1) := by omega
  have hS2 : w.heap.size ≤ (w.heap.size + 1) := by omega
  refine (refPut_any [x] _ 1 _ ((w.heap.size + 1) + 1) m 4 ((w.alloc (.cells #[.int .i64 (x.toNat : Int), .int .i64 (m : Int), .int .i64 (y.toNat : Int), .int .i64 (t : Int), .int .i64 a, .int .i64 b, .int .i64 c, .int .i64 d] 25)).alloc (.cells #[.int .u8 (x.toNat : Int)] 5)) HBY.out (by decide) (Nat.le_of_eq hws.symm) (by decide) (by decide)).mono ?_
  rw [show putB ([x]) m 4 = [x] ++ be 4 m from rfl]
  have hpl : ([x] ++ be 4 m).length = 5 := by simp [be_len]
  rintro e' w2 ⟨A2, c2, rfl, hown, hbel⟩
  rw [hpl] at hown ⊢
  have HO2 : Hid (Own w2 (w.heap.size + 1) 5 (.slice A2 5 c2) 5 ([x] ++ be 4 m)) := hown.mono (by rw [hws]; omega)
  have HB2 := Lib.hid (HBL.out.trans (hbel.mono HBL.out.size))
  have HX2 := Lib.hid (HXL.out.below hbel (by rw [hws]; omega))
  have hw2 : (w.heap.size + 1) < w2.heap.size := by have := hbel.size; rw [hws] at this; omega
  clear hown hbel hpl
  have q2 := HX2.out 2 _ rfl
  have q3 := HX2.out 3 _ rfl
  go_wp2_with fail
  go_region_held3 (fun w' => w'.cell? ⟨w.heap.size, 2, none⟩ = some (.int .i64 (y.toNat : Int)) ∧ w'.cell? ⟨w.heap.size, 3, none⟩ = some (.int .i64 (t : Int))) (go_keep) (first
    | (refine step_append_byt rfl Tryd.u8w (.tmp 14) (.tmp 18) rfl rfl (HO2.out.keep (Below.drew (Below.alloc (Below.refl _ _) (Nat.le_refl _) _))) rfl (Byt.drew (Byt.new w2 #[.int .u8 (y.toNat : Int)] _ (0, 0) [y] rfl)) ?_ ?_ ?_; decide; (simp; omega); intro A3 c3 w3 hown3 hbel3; have HO3 := Lib.hid hown3; have HB3 : Hid (Below w.heap.size w w3) := Below.trans (Below.drew (HB2.out.alloc HB2.out.size _)) (hbel3.mono hS2); have HX3 := Lib.hid (HX2.out.below (Below.trans (Below.drew (Below.alloc (Below.refl (w.heap.size + 1) w2) (by omega) _)) hbel3) hS1); have n2 := HX3.out 2 _ rfl; have n3 := HX3.out 3 _ rfl; have hw3 : w.heap.size < w3.heap.size := (by have := hbel3.size; simp at this; omega); clear hown3 hbel3)
    | (go_at_call 41; refine (refPut_any (([x] ++ be 4 m) ++ [y]) _ (5 + 1) c3 _ t 6 w3 HO3.out.byt (by decide) (Nat.le_refl _) (by decide) (by decide)).mono ?_; rw [show putB (([x] ++ be 4 m) ++ [y]) t 6 = ([x] ++ be 4 m) ++ [y] ++ be 6 t from rfl]; have hpl : (([x] ++ be 4 m) ++ [y] ++ be 6 t).length = 12 := (by simp [be_len]); rintro e' w4 ⟨A4, c4, rfl, hown4, hbel4⟩; rw [hpl] at hown4 ⊢; have HO4 := Lib.hid hown4; have HB4 := Lib.hid (HB3.out.trans (hbel4.mono HB3.out.size)); have HX4 := Lib.hid (HX3.out.below hbel4 hw3); have hw4 : w.heap.size < w4.heap.size := Nat.lt_of_lt_of_le hw3 hbel4.size; have m2 := HX4.out 2 _ rfl; have m3 := HX4.out 3 _ rfl; have hz34 := hbel4.size; clear hown4 hbel4 hpl))
  all_goals
    have r4 := HX4.out 4 _ rfl
    have r5 := HX4.out 5 _ rfl
    have r6 := HX4.out 6 _ rfl
    have r7 := HX4.out 7 _ rfl
    go_wp2_with fail
    refine (refLay_any a b c d w4 HL.out).mono ?_
    have hpl : (lbytes a b c d).length = 7 := lbytes_len _ _ _ _
    rintro e' w5 ⟨A5, c5, rfl, hown, hbel⟩
    rw [hpl] at hown ⊢
    have HO5 := Lib.hid hown
    have HO4b := Lib.hid (HO4.out.keep hbel)
    have HB5 := Lib.hid (HB4.out.trans (hbel.mono HB4.out.size))
    have hz45 := hbel.size
    clear hown hbel hpl r4 r5 r6 r7 q2 q3 m2 m3
    go_wp2_with (at_builtin; refine wpList_append_byt rfl Tryd.u8w (.tmp 25) (.tmp 28) rfl rfl HO4b.out rfl HO5.out.byt ?_ ?_ ?_; decide; omega; intro A6 c6 w6 hown6 hbel6; rw [show 12 + 7 = 19 from rfl] at hown6 ⊢; have HO6 := Lib.hid hown6; have HB6 : Hid (Below w.heap.size w w6) := HB5.out.trans (hbel6.mono (by omega)); clear hown6 hbel6)
    refine (refEncode_any 4 0 sc (pbody x y m t (lbytes a b c d)) _ 19 c6 w6.heap.size w6 HO6.out.byt (by decide) (Nat.le_refl _) (by decide) hsc r HE.out).mono ?_
    rintro e' w7 ⟨A7, c7, rfl, hown, hbel⟩
    have HO7 := Lib.hid hown
    have HB7 := Lib.hid (HB6.out.trans (hbel.mono HB6.out.size))
    clear hown hbel
    go_wp2_with fail
    go_ret
    exact ⟨A7, c7, rfl, HO7.out.mono HB6.out.size, HB7.out⟩

end Go.Proofs.YthjnbdbbeidhgaaDoor
