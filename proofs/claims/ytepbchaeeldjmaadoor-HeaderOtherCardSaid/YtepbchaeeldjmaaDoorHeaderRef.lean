/- The walk of the reference's Encode. -/
import Derived.Test.YtepbchaeeldjmaaDoorHeaderWalk
namespace Go.Proofs.YtepbchaeeldjmaaDoor
open Go.RowKit

set_option maxHeartbeats 600000 in
theorem refHencode_any (a b c d e f : Int) (t : Nat) (w : World) (hv : hvalid (a, b, c, d, e, f) = true) (htl : t < 1048576) (r : List UInt8) (hr : hencF (a, b, c, d, e, f) t = r) :
    Calls Tryd.prog 24 #[.agg #[.int .i64 a, .int .i64 b, .int .i64 c, .int .i64 d, .int .i64 e, .int .i64 f], .int .i64 (t : Int)] w (PutRes w.heap.size r w) := by
  obtain ⟨x, y, la, sq, ta, no, rfl, rfl, rfl, rfl, rfl, rfl, hla, hsq, hta, hno, hby⟩ := hnats hv
  have HE : Hid (frame (1 : UInt8).toNat 0 t (hbody x y la sq ta no) = r) := by show _ = _; rw [← hr, hencF, hby, show (1 : UInt8).toNat = 1 from rfl, Int.toNat_natCast]
  clear hv hr hby
  have hx := x.toNat_lt
  have hy := y.toNat_lt
  go_enter Tryd.func24, Tryd.ntmps24
  have HB1 : Hid (Below w.heap.size w (w.alloc (.cells #[.int .i64 (x.toNat : Int), .int .i64 (y.toNat : Int), .int .i64 (la : Int), .int .i64 (sq : Int), .int .i64 (ta : Int), .int .i64 (no : Int)] 41))) := (Below.refl _ _).alloc (Nat.le_refl _) _
  have HX1 := Lib.hid (Box6.new w 41 (x.toNat : Int) (y.toNat : Int) (la : Int) (sq : Int) (ta : Int) (no : Int))
  go_wp2_with fail
  have hw1 : w.heap.size < (w.alloc (.cells #[.int .i64 (x.toNat : Int), .int .i64 (y.toNat : Int), .int .i64 (la : Int), .int .i64 (sq : Int), .int .i64 (ta : Int), .int .i64 (no : Int)] 41)).heap.size := by simp
  have HL1 := Lib.hid (HX1.out.below ((Below.refl (w.alloc (.cells #[.int .i64 (x.toNat : Int), .int .i64 (y.toNat : Int), .int .i64 (la : Int), .int .i64 (sq : Int), .int .i64 (ta : Int), .int .i64 (no : Int)] 41)).heap.size (w.alloc (.cells #[.int .i64 (x.toNat : Int), .int .i64 (y.toNat : Int), .int .i64 (la : Int), .int .i64 (sq : Int), .int .i64 (ta : Int), .int .i64 (no : Int)] 41))).alloc (Nat.le_refl _) (.cells #[.int .u8 (x.toNat : Int), .int .u8 (y.toNat : Int)] 5)) hw1)
  have HBL := Lib.hid (HB1.out.alloc HB1.out.size (.cells #[.int .u8 (x.toNat : Int), .int .u8 (y.toNat : Int)] 5))
  have HBY : Hid (Byt ((w.alloc (.cells #[.int .i64 (x.toNat : Int), .int .i64 (y.toNat : Int), .int .i64 (la : Int), .int .i64 (sq : Int), .int .i64 (ta : Int), .int .i64 (no : Int)] 41)).alloc (.cells #[.int .u8 (x.toNat : Int), .int .u8 (y.toNat : Int)] 5)) (w.heap.size + 1 + 1) (some ⟨w.heap.size + 1, 0, none⟩) 2 [x, y]) := by
    have h := Byt.new (w.alloc (.cells #[.int .i64 (x.toNat : Int), .int .i64 (y.toNat : Int), .int .i64 (la : Int), .int .i64 (sq : Int), .int .i64 (ta : Int), .int .i64 (no : Int)] 41)) #[.int .u8 (x.toNat : Int), .int .u8 (y.toNat : Int)] 5 (0, 0) [x, y] rfl
    rw [World.size_alloc] at h
    exact h
  refine (refPut_any [x, y] _ 2 _ (w.heap.size + 1 + 1) la 4 ((w.alloc (.cells #[.int .i64 (x.toNat : Int), .int .i64 (y.toNat : Int), .int .i64 (la : Int), .int .i64 (sq : Int), .int .i64 (ta : Int), .int .i64 (no : Int)] 41)).alloc (.cells #[.int .u8 (x.toNat : Int), .int .u8 (y.toNat : Int)] 5)) HBY.out (by decide) (by simp) (by decide) (by decide)).mono ?_
  rw [show putB ([x, y]) la 4 = [x, y] ++ be 4 la from rfl]
  have hpl2 : ([x, y] ++ be 4 la).length = 6 := by simp [be_len]
  rintro e' w2 ⟨A2, c2, rfl, hown, hbel⟩
  rw [hpl2] at hown ⊢
  have HO2 := Lib.hid hown
  have HB2 := Lib.hid (HBL.out.trans (hbel.mono (HBL.out.size)))
  have HX2 := Lib.hid (HL1.out.below hbel (by simp; omega))
  have hw2 : w.heap.size < w2.heap.size := Nat.lt_of_lt_of_le (by simp; omega) hbel.size
  obtain ⟨-, -, -, m3, m4, m5⟩ := HX2.out
  clear hown hbel hpl2
  go_wp2_with fail
  clear m3 m4 m5
  refine (refPut_any ([x, y] ++ be 4 la) _ 6 c2 _ sq 6 w2 HO2.out.byt (by decide) (Nat.le_refl _) (by decide) (by decide)).mono ?_
  rw [show putB ([x, y] ++ be 4 la) sq 6 = ([x, y] ++ be 4 la) ++ be 6 sq from rfl]
  have hpl3 : (([x, y] ++ be 4 la) ++ be 6 sq).length = 12 := by simp [be_len]
  rintro e' w3 ⟨A3, c3, rfl, hown, hbel⟩
  rw [hpl3] at hown ⊢
  have HO3 := Lib.hid hown
  have HB3 := Lib.hid (HB2.out.trans (hbel.mono (HB2.out.size)))
  have HX3 := Lib.hid (HX2.out.below hbel hw2)
  have hw3 : w.heap.size < w3.heap.size := Nat.lt_of_lt_of_le hw2 hbel.size
  obtain ⟨-, -, -, m3, m4, m5⟩ := HX3.out
  clear hown hbel hpl3
  go_wp2_with fail
  clear m3 m4 m5
  refine (refPut_any (([x, y] ++ be 4 la) ++ be 6 sq) _ 12 c3 _ ta 6 w3 HO3.out.byt (by decide) (Nat.le_refl _) (by decide) (by decide)).mono ?_
  rw [show putB (([x, y] ++ be 4 la) ++ be 6 sq) ta 6 = (([x, y] ++ be 4 la) ++ be 6 sq) ++ be 6 ta from rfl]
  have hpl4 : ((([x, y] ++ be 4 la) ++ be 6 sq) ++ be 6 ta).length = 18 := by simp [be_len]
  rintro e' w4 ⟨A4, c4, rfl, hown, hbel⟩
  rw [hpl4] at hown ⊢
  have HO4 := Lib.hid hown
  have HB4 := Lib.hid (HB3.out.trans (hbel.mono (HB3.out.size)))
  have HX4 := Lib.hid (HX3.out.below hbel hw3)
  have hw4 : w.heap.size < w4.heap.size := Nat.lt_of_lt_of_le hw3 hbel.size
  obtain ⟨-, -, -, m3, m4, m5⟩ := HX4.out
  clear hown hbel hpl4
  go_wp2_with fail
  clear m3 m4 m5
  refine (refPut_any ((([x, y] ++ be 4 la) ++ be 6 sq) ++ be 6 ta) _ 18 c4 _ no 5 w4 HO4.out.byt (by decide) (Nat.le_refl _) (by decide) (by decide)).mono ?_
  rw [show putB ((([x, y] ++ be 4 la) ++ be 6 sq) ++ be 6 ta) no 5 = ((([x, y] ++ be 4 la) ++ be 6 sq) ++ be 6 ta) ++ be 5 no from rfl]
  have hpl5 : (((([x, y] ++ be 4 la) ++ be 6 sq) ++ be 6 ta) ++ be 5 no).length = 23 := by simp [be_len]
  rintro e' w5 ⟨A5, c5, rfl, hown, hbel⟩
  rw [hpl5] at hown ⊢
  have HO5 := Lib.hid hown
  have HB5 := Lib.hid (HB4.out.trans (hbel.mono (HB4.out.size)))
  have HX5 := Lib.hid (HX4.out.below hbel hw4)
  have hw5 : w.heap.size < w5.heap.size := Nat.lt_of_lt_of_le hw4 hbel.size
  clear hown hbel hpl5
  go_wp2_with fail
  rw [show ((([x, y] ++ be 4 la) ++ be 6 sq) ++ be 6 ta) ++ be 5 no = hbody x y la sq ta no from rfl] at HO5
  refine (refEncode_any 1 0 t (hbody x y la sq ta no) _ 23 c5 w5.heap.size w5 HO5.out.byt (by decide) (Nat.le_refl _) (by decide) htl r HE.out).mono ?_
  rintro e' w6 ⟨A6, c6, rfl, hown, hbel⟩
  have HO6 := Lib.hid hown
  have HB6 := Lib.hid (HB5.out.trans (hbel.mono HB5.out.size))
  clear hown hbel
  go_wp2_with fail
  go_ret
  exact ⟨A6, c6, rfl, HO6.out.mono HB5.out.size, HB6.out⟩

end Go.Proofs.YtepbchaeeldjmaaDoor
