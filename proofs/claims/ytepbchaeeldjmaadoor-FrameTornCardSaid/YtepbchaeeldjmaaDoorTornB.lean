/- The walk of the law FrameTorn: the burst. -/
import Derived.Test.YtepbchaeeldjmaaDoorTornA
namespace Go.Proofs.YtepbchaeeldjmaaDoor
open Go.RowKit

set_option maxHeartbeats 4000000 in
theorem frameTorn_burst (k s t : Int) (p : List UInt8) (A : Option Addr) (n m cap : Nat) (pos : Int) (x0 x1 x2 x3 : UInt8) (w : World) (HT : Hid (∀ w', Below w.heap.size w w' → TabAt w' ∧ 0 < w'.heap.size)) (HB : Hid (∀ w', Below w.heap.size w w' → Byt w' w.heap.size A m p))
    (HMIN : Hid ((if (59 : Int) < (n : Int) then (59 : Int) else (n : Int)) = (m : Int))) (hmn : m ≤ n) (hm59 : m ≤ 59) (hn : n ≤ cap) (_hcap : cap ≤ 9223372036854775807) (hs : s ≤ 9223372036854775807)
    (fr : List UInt8) (HE : Hid (encS k s t p = (fr, 0))) (HFL : Hid (fr.length = 64))
    (heq : ∀ w : World, (Op.equalIn 10000 36 (.agg #[.int .u8 (x0.toNat : Int), .int .u8 (x1.toNat : Int), .int .u8 (x2.toNat : Int), .int .u8 (x3.toNat : Int)]) (.agg #[.int .u8 0, .int .u8 0, .int .u8 0, .int .u8 0])).run Tryd.prog w = .ok false w)
    (q a : Nat) (p1 : -58 < pos.tmod 58) (p2 : pos.tmod 58 < 58) (p3 : pos.tmod 58 % 58 = (q : Int)) (p4 : q < 58) (ha64 : a + 4 ≤ 64) (hqa : (q ≠ 57 ∧ a = q) ∨ (q = 57 ∧ a = 60)) (HN : Hid (dec k s t (Crc.burst fr a [x0, x1, x2, x3] 4) = none)) :
    Calls Tryd.prog 6 #[.agg #[.int .i64 k, .int .i64 s, .int .i64 t, .slice A n cap, .int .i64 pos, .int .u8 (x0.toNat : Int), .int .u8 (x1.toNat : Int), .int .u8 (x2.toNat : Int), .int .u8 (x3.toNat : Int)]] w fun e w' => e = .returned (.bool true) ∧ Below w.heap.size w w' := by
  have H0 := Lib.hid (torn_pre0 k s t x0 x1 x2 x3 w)
  have H1 := Lib.hid (torn_pre1 k s t x0 x1 x2 x3 w)
  go_enter Tryd.func6, Tryd.ntmps6
  go_wp2_with fail
  go_region
  all_goals
    go_wp2_with (refine wpList_min rfl _ _ rfl (p := (n : Int)) (q := 59) (m := (m : Int)) ?_ ?_ ?_ ?_; rfl; rfl; exact HMIN.out)
  · refine (encode_any k s t p _ _ _ w.heap.size _ (HT.out _ (H0.out _ _ _).1).1 (HT.out _ (H0.out _ _ _).1).2 (HB.out _ (H0.out _ _ _).1) (by omega) (H0.out _ _ _).1.size hs _ HE.out).mono ?_
    rintro e w1 ⟨A1, c1, rfl, hown, hbel⟩
    simp only [HFL.out] at hown ⊢
    obtain ⟨g, rfl⟩ := hown.head (by decide)
    obtain ⟨_, _, hv, hc1, hc2⟩ := hown.form
    injection hv with hv1 hv2 hv3
    subst hv3
    have hbel1 : Below (w.heap.size + 1 + 1 + 1) _ w1 := hbel.mono (by simp)
    have HO1 : Hid (Own w1 (w.heap.size + 1 + 1 + 1) 5 (.slice (some ⟨g, 0, none⟩) 64 c1) 64 fr) := hown.mono (by simp)
    have HB1 : Hid (Below w.heap.size w w1) := (H0.out _ _ _).1.trans (hbel.mono (H0.out _ _ _).1.size)
    have HP1 := Lib.hid ((H0.out _ _ _).2.1.below hbel1 (by omega))
    have HX1 := Lib.hid ((H0.out _ _ _).2.2.below hbel1 (by omega))
    have hw1 : w.heap.size + 1 + 1 + 1 ≤ w1.heap.size := by have := hbel.size; simpa using this
    clear hown hbel hbel1 hv1 hv2
    obtain ⟨y0, y1, y2, y3⟩ : w1.cell? ⟨(w.heap.size + 1 + 1), 0, none⟩ = some (.int .u8 (x0.toNat : Int)) ∧ w1.cell? ⟨(w.heap.size + 1 + 1), 1, none⟩ = some (.int .u8 (x1.toNat : Int)) ∧ w1.cell? ⟨(w.heap.size + 1 + 1), 2, none⟩ = some (.int .u8 (x2.toNat : Int)) ∧ w1.cell? ⟨(w.heap.size + 1 + 1), 3, none⟩ = some (.int .u8 (x3.toNat : Int)) := ⟨HX1.out 0 x0 rfl, HX1.out 1 x1 rfl, HX1.out 2 x2 rfl, HX1.out 3 x3 rfl⟩
    rcases hqa with ⟨hq, rfl⟩ | ⟨hq, rfl⟩
    · go_wp2_with fail
      rw [show (pos.tmod 58 + 58) % 58 = (a : Int) from by omega]
      clear p1 p2 p3 y0 y1 y2 y3
      go_loopw [9] (fun i wr => ∃ k' : Nat, k' ≤ 4 ∧ i = .int .i64 k' ∧ Own wr (w.heap.size + 1 + 1 + 1) 5 (.slice (some ⟨g, 0, none⟩) 64 c1) 64 (Crc.burst fr a [x0, x1, x2, x3] k') ∧ Box4 wr (w.heap.size + 1 + 1) x0 x1 x2 x3 ∧ Box3 wr (w.heap.size + 1) k s t ∧ Below w.heap.size w wr ∧ w.heap.size + 1 + 1 + 1 ≤ wr.heap.size) (fun i _ => 4 - (intOf i).toNat)
      case atStart => exact ⟨0, by omega, rfl, HO1.out, HX1.out, HP1.out, HB1.out, hw1⟩
      case round =>
        obtain ⟨j, hj, rfl, hown, hbox, hbp, hbel, hwr⟩ := hrel
        by_cases hlt : j < 4
        · obtain ⟨x, hx1, hx2⟩ := hbox.at_ hlt
          obtain ⟨b, hb1, hb2, hb3⟩ := hown.at_ (a + j) (by omega)
          have hxor := u8_xor_u8 b x
          have HR : Hid (∀ w2, w2 = (wr.setCell ⟨g, a + j, none⟩ (.int .u8 ((b.toNat ^^^ x.toNat : Nat) : Int))).drew → Own w2 (w.heap.size + 1 + 1 + 1) 5 (.slice (some ⟨g, 0, none⟩) 64 c1) 64 (Crc.burst fr a [x0, x1, x2, x3] (j + 1)) ∧ Box4 w2 (w.heap.size + 1 + 1) x0 x1 x2 x3 ∧ Box3 w2 (w.heap.size + 1) k s t ∧ Below w.heap.size w w2 ∧ w.heap.size + 1 + 1 + 1 ≤ w2.heap.size) := fun w2 hw2 => by
            obtain ⟨r1, r2⟩ := rel_burst2 (x := x) hown hb1 hx1 w2 hw2
            exact ⟨r1, hbox.below r2 (by omega), hbp.below r2 (by omega), hbel.trans (r2.mono (by omega)), Nat.le_trans hwr r2.size⟩
          have hk1 : (0 : Int) ≤ (j : Int) := by omega
          have hk2 : (j : Int) < 4 := by omega
          clear hown hbox hbp hbel hb1 hx1 heq
          go_wp2
          go_region
          go_wp2
          go_roundw
          case rel => exact ⟨j + 1, by omega, by go_num, HR.out _ rfl⟩
          case measure => simp [intOf]; omega
        · have hk4 : j = 4 := by omega
          subst hk4
          have HO := Lib.hid hown
          have HBl := Lib.hid hbel
          obtain ⟨l0, l1, l2⟩ := hbp
          clear hown hbel hbox heq
          go_wp2_with fail
          refine (decode_any k s t _ _ 64 c1 wr.heap.size wr (HT.out _ HBl.out).1 (HT.out _ HBl.out).2 HO.out.byt hc1 hc2 (Nat.le_refl _) hs _ HN.out).mono ?_
          rintro e w4 ⟨A4, c4, rfl, hown, hbel⟩
          have HB4 := Lib.hid (HBl.out.trans (hbel.mono HBl.out.size))
          simp only [Option.getD_none, Option.isSome_none, List.length_nil]
          clear hown hbel l0 l1 l2
          go_wp2_with fail
          refine (frameAwake_any w4 (HT.out _ HB4.out).1 (HT.out _ HB4.out).2).mono ?_
          rintro e w5 ⟨rfl, hbel⟩
          have HB5 := Lib.hid (HB4.out.trans (hbel.mono HB4.out.size))
          clear hbel
          go_wp2
          go_ret
          exact ⟨rfl, HB5.out⟩
    · go_wp2_with fail
      clear p1 p2 p3 y0 y1 y2 y3
      go_loopw [9] (fun i wr => ∃ k' : Nat, k' ≤ 4 ∧ i = .int .i64 k' ∧ Own wr (w.heap.size + 1 + 1 + 1) 5 (.slice (some ⟨g, 0, none⟩) 64 c1) 64 (Crc.burst fr 60 [x0, x1, x2, x3] k') ∧ Box4 wr (w.heap.size + 1 + 1) x0 x1 x2 x3 ∧ Box3 wr (w.heap.size + 1) k s t ∧ Below w.heap.size w wr ∧ w.heap.size + 1 + 1 + 1 ≤ wr.heap.size) (fun i _ => 4 - (intOf i).toNat)
      case atStart => exact ⟨0, by omega, rfl, HO1.out, HX1.out, HP1.out, HB1.out, hw1⟩
      case round =>
        obtain ⟨j, hj, rfl, hown, hbox, hbp, hbel, hwr⟩ := hrel
        by_cases hlt : j < 4
        · obtain ⟨x, hx1, hx2⟩ := hbox.at_ hlt
          obtain ⟨b, hb1, hb2, hb3⟩ := hown.at_ (60 + j) (by omega)
          have hxor := u8_xor_u8 b x
          have HR : Hid (∀ w2, w2 = (wr.setCell ⟨g, 60 + j, none⟩ (.int .u8 ((b.toNat ^^^ x.toNat : Nat) : Int))).drew → Own w2 (w.heap.size + 1 + 1 + 1) 5 (.slice (some ⟨g, 0, none⟩) 64 c1) 64 (Crc.burst fr 60 [x0, x1, x2, x3] (j + 1)) ∧ Box4 w2 (w.heap.size + 1 + 1) x0 x1 x2 x3 ∧ Box3 w2 (w.heap.size + 1) k s t ∧ Below w.heap.size w w2 ∧ w.heap.size + 1 + 1 + 1 ≤ w2.heap.size) := fun w2 hw2 => by
            obtain ⟨r1, r2⟩ := rel_burst2 (x := x) hown hb1 hx1 w2 hw2
            exact ⟨r1, hbox.below r2 (by omega), hbp.below r2 (by omega), hbel.trans (r2.mono (by omega)), Nat.le_trans hwr r2.size⟩
          have hk1 : (0 : Int) ≤ (j : Int) := by omega
          have hk2 : (j : Int) < 4 := by omega
          clear hown hbox hbp hbel hb1 hx1 heq
          go_wp2
          go_region
          go_wp2
          go_roundw
          case rel => exact ⟨j + 1, by omega, by go_num, HR.out _ rfl⟩
          case measure => simp [intOf]; omega
        · have hk4 : j = 4 := by omega
          subst hk4
          have HO := Lib.hid hown
          have HBl := Lib.hid hbel
          obtain ⟨l0, l1, l2⟩ := hbp
          clear hown hbel hbox heq
          go_wp2_with fail
          refine (decode_any k s t _ _ 64 c1 wr.heap.size wr (HT.out _ HBl.out).1 (HT.out _ HBl.out).2 HO.out.byt hc1 hc2 (Nat.le_refl _) hs _ HN.out).mono ?_
          rintro e w4 ⟨A4, c4, rfl, hown, hbel⟩
          have HB4 := Lib.hid (HBl.out.trans (hbel.mono HBl.out.size))
          simp only [Option.getD_none, Option.isSome_none, List.length_nil]
          clear hown hbel l0 l1 l2
          go_wp2_with fail
          refine (frameAwake_any w4 (HT.out _ HB4.out).1 (HT.out _ HB4.out).2).mono ?_
          rintro e w5 ⟨rfl, hbel⟩
          have HB5 := Lib.hid (HB4.out.trans (hbel.mono HB4.out.size))
          clear hbel
          go_wp2
          go_ret
          exact ⟨rfl, HB5.out⟩
  · refine (encode_any k s t p _ _ _ w.heap.size _ (HT.out _ (H1.out _ _ _).1).1 (HT.out _ (H1.out _ _ _).1).2 (HB.out _ (H1.out _ _ _).1) (by omega) (H1.out _ _ _).1.size hs _ HE.out).mono ?_
    rintro e w1 ⟨A1, c1, rfl, hown, hbel⟩
    simp only [HFL.out] at hown ⊢
    obtain ⟨g, rfl⟩ := hown.head (by decide)
    obtain ⟨_, _, hv, hc1, hc2⟩ := hown.form
    injection hv with hv1 hv2 hv3
    subst hv3
    have hbel1 : Below (w.heap.size + 1 + 1 + 1) _ w1 := hbel.mono (by simp)
    have HO1 : Hid (Own w1 (w.heap.size + 1 + 1 + 1) 5 (.slice (some ⟨g, 0, none⟩) 64 c1) 64 fr) := hown.mono (by simp)
    have HB1 : Hid (Below w.heap.size w w1) := (H1.out _ _ _).1.trans (hbel.mono (H1.out _ _ _).1.size)
    have HP1 := Lib.hid ((H1.out _ _ _).2.1.below hbel1 (by omega))
    have HX1 := Lib.hid ((H1.out _ _ _).2.2.below hbel1 (by omega))
    have hw1 : w.heap.size + 1 + 1 + 1 ≤ w1.heap.size := by have := hbel.size; simpa using this
    clear hown hbel hbel1 hv1 hv2
    obtain ⟨y0, y1, y2, y3⟩ : w1.cell? ⟨(w.heap.size + 1), 0, none⟩ = some (.int .u8 (x0.toNat : Int)) ∧ w1.cell? ⟨(w.heap.size + 1), 1, none⟩ = some (.int .u8 (x1.toNat : Int)) ∧ w1.cell? ⟨(w.heap.size + 1), 2, none⟩ = some (.int .u8 (x2.toNat : Int)) ∧ w1.cell? ⟨(w.heap.size + 1), 3, none⟩ = some (.int .u8 (x3.toNat : Int)) := ⟨HX1.out 0 x0 rfl, HX1.out 1 x1 rfl, HX1.out 2 x2 rfl, HX1.out 3 x3 rfl⟩
    rcases hqa with ⟨hq, rfl⟩ | ⟨hq, rfl⟩
    · go_wp2_with fail
      rw [show (pos.tmod 58 + 58) % 58 = (a : Int) from by omega]
      clear p1 p2 p3 y0 y1 y2 y3
      go_loopw [9] (fun i wr => ∃ k' : Nat, k' ≤ 4 ∧ i = .int .i64 k' ∧ Own wr (w.heap.size + 1 + 1 + 1) 5 (.slice (some ⟨g, 0, none⟩) 64 c1) 64 (Crc.burst fr a [x0, x1, x2, x3] k') ∧ Box4 wr (w.heap.size + 1) x0 x1 x2 x3 ∧ Box3 wr (w.heap.size + 1 + 1) k s t ∧ Below w.heap.size w wr ∧ w.heap.size + 1 + 1 + 1 ≤ wr.heap.size) (fun i _ => 4 - (intOf i).toNat)
      case atStart => exact ⟨0, by omega, rfl, HO1.out, HX1.out, HP1.out, HB1.out, hw1⟩
      case round =>
        obtain ⟨j, hj, rfl, hown, hbox, hbp, hbel, hwr⟩ := hrel
        by_cases hlt : j < 4
        · obtain ⟨x, hx1, hx2⟩ := hbox.at_ hlt
          obtain ⟨b, hb1, hb2, hb3⟩ := hown.at_ (a + j) (by omega)
          have hxor := u8_xor_u8 b x
          have HR : Hid (∀ w2, w2 = (wr.setCell ⟨g, a + j, none⟩ (.int .u8 ((b.toNat ^^^ x.toNat : Nat) : Int))).drew → Own w2 (w.heap.size + 1 + 1 + 1) 5 (.slice (some ⟨g, 0, none⟩) 64 c1) 64 (Crc.burst fr a [x0, x1, x2, x3] (j + 1)) ∧ Box4 w2 (w.heap.size + 1) x0 x1 x2 x3 ∧ Box3 w2 (w.heap.size + 1 + 1) k s t ∧ Below w.heap.size w w2 ∧ w.heap.size + 1 + 1 + 1 ≤ w2.heap.size) := fun w2 hw2 => by
            obtain ⟨r1, r2⟩ := rel_burst2 (x := x) hown hb1 hx1 w2 hw2
            exact ⟨r1, hbox.below r2 (by omega), hbp.below r2 (by omega), hbel.trans (r2.mono (by omega)), Nat.le_trans hwr r2.size⟩
          have hk1 : (0 : Int) ≤ (j : Int) := by omega
          have hk2 : (j : Int) < 4 := by omega
          clear hown hbox hbp hbel hb1 hx1 heq
          go_wp2
          go_region
          go_wp2
          go_roundw
          case rel => exact ⟨j + 1, by omega, by go_num, HR.out _ rfl⟩
          case measure => simp [intOf]; omega
        · have hk4 : j = 4 := by omega
          subst hk4
          have HO := Lib.hid hown
          have HBl := Lib.hid hbel
          obtain ⟨l0, l1, l2⟩ := hbp
          clear hown hbel hbox heq
          go_wp2_with fail
          refine (decode_any k s t _ _ 64 c1 wr.heap.size wr (HT.out _ HBl.out).1 (HT.out _ HBl.out).2 HO.out.byt hc1 hc2 (Nat.le_refl _) hs _ HN.out).mono ?_
          rintro e w4 ⟨A4, c4, rfl, hown, hbel⟩
          have HB4 := Lib.hid (HBl.out.trans (hbel.mono HBl.out.size))
          simp only [Option.getD_none, Option.isSome_none, List.length_nil]
          clear hown hbel l0 l1 l2
          go_wp2_with fail
          refine (frameAwake_any w4 (HT.out _ HB4.out).1 (HT.out _ HB4.out).2).mono ?_
          rintro e w5 ⟨rfl, hbel⟩
          have HB5 := Lib.hid (HB4.out.trans (hbel.mono HB4.out.size))
          clear hbel
          go_wp2
          go_ret
          exact ⟨rfl, HB5.out⟩
    · go_wp2_with fail
      clear p1 p2 p3 y0 y1 y2 y3
      go_loopw [9] (fun i wr => ∃ k' : Nat, k' ≤ 4 ∧ i = .int .i64 k' ∧ Own wr (w.heap.size + 1 + 1 + 1) 5 (.slice (some ⟨g, 0, none⟩) 64 c1) 64 (Crc.burst fr 60 [x0, x1, x2, x3] k') ∧ Box4 wr (w.heap.size + 1) x0 x1 x2 x3 ∧ Box3 wr (w.heap.size + 1 + 1) k s t ∧ Below w.heap.size w wr ∧ w.heap.size + 1 + 1 + 1 ≤ wr.heap.size) (fun i _ => 4 - (intOf i).toNat)
      case atStart => exact ⟨0, by omega, rfl, HO1.out, HX1.out, HP1.out, HB1.out, hw1⟩
      case round =>
        obtain ⟨j, hj, rfl, hown, hbox, hbp, hbel, hwr⟩ := hrel
        by_cases hlt : j < 4
        · obtain ⟨x, hx1, hx2⟩ := hbox.at_ hlt
          obtain ⟨b, hb1, hb2, hb3⟩ := hown.at_ (60 + j) (by omega)
          have hxor := u8_xor_u8 b x
          have HR : Hid (∀ w2, w2 = (wr.setCell ⟨g, 60 + j, none⟩ (.int .u8 ((b.toNat ^^^ x.toNat : Nat) : Int))).drew → Own w2 (w.heap.size + 1 + 1 + 1) 5 (.slice (some ⟨g, 0, none⟩) 64 c1) 64 (Crc.burst fr 60 [x0, x1, x2, x3] (j + 1)) ∧ Box4 w2 (w.heap.size + 1) x0 x1 x2 x3 ∧ Box3 w2 (w.heap.size + 1 + 1) k s t ∧ Below w.heap.size w w2 ∧ w.heap.size + 1 + 1 + 1 ≤ w2.heap.size) := fun w2 hw2 => by
            obtain ⟨r1, r2⟩ := rel_burst2 (x := x) hown hb1 hx1 w2 hw2
            exact ⟨r1, hbox.below r2 (by omega), hbp.below r2 (by omega), hbel.trans (r2.mono (by omega)), Nat.le_trans hwr r2.size⟩
          have hk1 : (0 : Int) ≤ (j : Int) := by omega
          have hk2 : (j : Int) < 4 := by omega
          clear hown hbox hbp hbel hb1 hx1 heq
          go_wp2
          go_region
          go_wp2
          go_roundw
          case rel => exact ⟨j + 1, by omega, by go_num, HR.out _ rfl⟩
          case measure => simp [intOf]; omega
        · have hk4 : j = 4 := by omega
          subst hk4
          have HO := Lib.hid hown
          have HBl := Lib.hid hbel
          obtain ⟨l0, l1, l2⟩ := hbp
          clear hown hbel hbox heq
          go_wp2_with fail
          refine (decode_any k s t _ _ 64 c1 wr.heap.size wr (HT.out _ HBl.out).1 (HT.out _ HBl.out).2 HO.out.byt hc1 hc2 (Nat.le_refl _) hs _ HN.out).mono ?_
          rintro e w4 ⟨A4, c4, rfl, hown, hbel⟩
          have HB4 := Lib.hid (HBl.out.trans (hbel.mono HBl.out.size))
          simp only [Option.getD_none, Option.isSome_none, List.length_nil]
          clear hown hbel l0 l1 l2
          go_wp2_with fail
          refine (frameAwake_any w4 (HT.out _ HB4.out).1 (HT.out _ HB4.out).2).mono ?_
          rintro e w5 ⟨rfl, hbel⟩
          have HB5 := Lib.hid (HB4.out.trans (hbel.mono HB4.out.size))
          clear hbel
          go_wp2
          go_ret
          exact ⟨rfl, HB5.out⟩
end Go.Proofs.YtepbchaeeldjmaaDoor
