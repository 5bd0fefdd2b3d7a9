/- The walk of header.Encode. -/
import Derived.Test.YtepbchaeeldjmaaDoorHeaderValid
namespace Go.Proofs.YtepbchaeeldjmaaDoor
open Go.RowKit

/-- A block of six ints. -/
def Box6 (w : World) (g : Nat) (a b c d e f : Int) : Prop := w.cell? ⟨g, 0, none⟩ = some (.int .i64 a) ∧ w.cell? ⟨g, 1, none⟩ = some (.int .i64 b) ∧ w.cell? ⟨g, 2, none⟩ = some (.int .i64 c) ∧ w.cell? ⟨g, 3, none⟩ = some (.int .i64 d) ∧ w.cell? ⟨g, 4, none⟩ = some (.int .i64 e) ∧ w.cell? ⟨g, 5, none⟩ = some (.int .i64 f)
theorem Box6.below {w w' : World} {g B : Nat} {a b c d e f : Int} (h : Box6 w g a b c d e f) (hb : Below B w w') (hg : g < B) : Box6 w' g a b c d e f :=
  ⟨(hb.cell (by exact hg)).trans h.1, (hb.cell (by exact hg)).trans h.2.1, (hb.cell (by exact hg)).trans h.2.2.1, (hb.cell (by exact hg)).trans h.2.2.2.1, (hb.cell (by exact hg)).trans h.2.2.2.2.1, (hb.cell (by exact hg)).trans h.2.2.2.2.2⟩
theorem Box6.new (w : World) (ty : TypeId) (a b c d e f : Int) : Box6 (w.alloc (.cells #[.int .i64 a, .int .i64 b, .int .i64 c, .int .i64 d, .int .i64 e, .int .i64 f] ty)) w.heap.size a b c d e f :=
  ⟨cell_of_row _ _ _ _ _ _ (heap_alloc_new w _), cell_of_row _ _ _ _ _ _ (heap_alloc_new w _), cell_of_row _ _ _ _ _ _ (heap_alloc_new w _), cell_of_row _ _ _ _ _ _ (heap_alloc_new w _), cell_of_row _ _ _ _ _ _ (heap_alloc_new w _), cell_of_row _ _ _ _ _ _ (heap_alloc_new w _)⟩

/-- What header.Encode returns. -/
def hencS (h : Hdr) (t : Int) : List UInt8 × Int := if hvalid h = true then encS 1 0 t (hbytes h) else ([], 4)
theorem hencS_bad {h : Hdr} {t : Int} (hv : hvalid h = false) : hencS h t = ([], 4) := by unfold hencS; rw [hv]; rfl
theorem hencS_range {h : Hdr} {t : Int} (hv : hvalid h = true) (hm : may 1 0 t = false) : hencS h t = ([], 2) := by unfold hencS encS; rw [if_pos hv, hm]; rfl
theorem hencS_ok {h : Hdr} {t : Int} (hv : hvalid h = true) (hm : may 1 0 t = true) : hencS h t = (hencF h t, 0) := by unfold hencS encS; rw [if_pos hv, if_pos hm, if_pos (by rw [hbytes_len]; decide)]; rfl
theorem hnats {a b c d e f : Int} (h : hvalid (a, b, c, d, e, f) = true) : ∃ (x y : UInt8) (la sq ta no : Nat), a = (x.toNat : Int) ∧ b = (y.toNat : Int) ∧ c = (la : Int) ∧ d = (sq : Int) ∧ e = (ta : Int) ∧ f = (no : Int) ∧ la ≤ 4294967295 ∧ sq ≤ 281474976710655 ∧ ta ≤ 281474976710655 ∧ no ≤ 549755813888 ∧ hbytes (a, b, c, d, e, f) = hbody x y la sq ta no := by
  rw [hvalid_iff] at h
  refine ⟨UInt8.ofNat a.toNat, UInt8.ofNat b.toNat, c.toNat, d.toNat, e.toNat, f.toNat, ?_, ?_, ?_, ?_, ?_, ?_, ?_, ?_, ?_, ?_, rfl⟩ <;> (try simp only [UInt8.toNat_ofNat']) <;> omega

set_option maxHeartbeats 600000 in
theorem hencode_any (a b c d e f t : Int) (w : World) (ht : TabAt w) (h0 : 0 < w.heap.size) (r : List UInt8 × Int) (hr : hencS (a, b, c, d, e, f) t = r) :
    Calls Tryd.prog 22 #[.agg #[.int .i64 a, .int .i64 b, .int .i64 c, .int .i64 d, .int .i64 e, .int .i64 f], .int .i64 t] w (EncRes r w) := by
  have HT := Lib.hid ht
  have H0 := Lib.hid h0
  clear ht h0
  cases hv : hvalid (a, b, c, d, e, f)
  · have HV := Lib.hid (hvalid_any a b c d e f false hv)
    obtain rfl : r = ([], 4) := by rw [← hr, hencS_bad hv]
    clear hv hr
    go_enter Tryd.func22, Tryd.ntmps22
    go_wp2_with (go_at_call 20; refine (HV.out _).mono ?_; rintro e' w1 ⟨rfl, hbel⟩; have HB1 : Hid (Below w.heap.size w w1) := ((Below.refl _ _).alloc (Nat.le_refl _) _).trans (hbel.mono (by simp)); clear hbel)
    go_ret2
    exact ⟨none, 0, rfl, Own.nil _ _ _, HB1.out⟩
  · have HV := Lib.hid (hvalid_any a b c d e f true hv)
    obtain ⟨x, y, la, sq, ta, no, rfl, rfl, rfl, rfl, rfl, rfl, hla, hsq, hta, hno, hby⟩ := hnats hv
    have HE : Hid (encS 1 0 t (hbody x y la sq ta no) = r) := by show _ = _; rw [← hr, hencS, if_pos hv, hby]
    clear hv hr hby
    have hx := x.toNat_lt
    have hy := y.toNat_lt
    go_enter Tryd.func22, Tryd.ntmps22
    go_wp2_with (go_at_call 20; refine (HV.out _).mono ?_; rintro e' w1 ⟨rfl, hbel⟩; have HB1 : Hid (Below w.heap.size w w1) := ((Below.refl _ _).alloc (Nat.le_refl _) _).trans (hbel.mono (by simp)); obtain ⟨l0, l1, l2, l3, l4, l5⟩ := ((Box6.new w 41 (x.toNat : Int) (y.toNat : Int) (la : Int) (sq : Int) (ta : Int) (no : Int)).below hbel (by simp)); have HX1 : Hid (Box6 w1 w.heap.size (x.toNat : Int) (y.toNat : Int) (la : Int) (sq : Int) (ta : Int) (no : Int)) := ⟨l0, l1, l2, l3, l4, l5⟩; have hw1 : w.heap.size < w1.heap.size := (by have := hbel.size; simp at this; omega); clear hbel)
    have HL1 := Lib.hid (HX1.out.below ((Below.refl w1.heap.size w1).alloc (Nat.le_refl _) (.cells #[.int .u8 (x.toNat : Int), .int .u8 (y.toNat : Int)] 5)) hw1)
    have HBL := Lib.hid (HB1.out.alloc HB1.out.size (.cells #[.int .u8 (x.toNat : Int), .int .u8 (y.toNat : Int)] 5))
    refine (put_any [x, y] _ 2 _ (w1.heap.size + 1) la 4 (w1.alloc (.cells #[.int .u8 (x.toNat : Int), .int .u8 (y.toNat : Int)] 5)) (Byt.new w1 _ _ _ [x, y] rfl) (by decide) (by simp) (by decide) (by decide)).mono ?_
    rw [show putB ([x, y]) la 4 = [x, y] ++ be 4 la from rfl]
    have hpl2 : ([x, y] ++ be 4 la).length = 6 := by simp [be_len]
    rintro e' w2 ⟨A2, c2, rfl, hown, hbel⟩
    rw [hpl2] at hown ⊢
    have HO2 := Lib.hid hown
    have HB2 := Lib.hid (HBL.out.trans (hbel.mono (HBL.out.size)))
    have HX2 := Lib.hid (HL1.out.below hbel (by simp; omega))
    have hw2 : w.heap.size < w2.heap.size := Nat.lt_of_lt_of_le (by simp; omega) hbel.size
    obtain ⟨-, -, -, m3, m4, m5⟩ := HX2.out
    clear hown hbel hpl2
    go_wp2_with fail
    clear m3 m4 m5
    refine (put_any ([x, y] ++ be 4 la) _ 6 c2 _ sq 6 w2 HO2.out.byt (by decide) (Nat.le_refl _) (by decide) (by decide)).mono ?_
    rw [show putB ([x, y] ++ be 4 la) sq 6 = ([x, y] ++ be 4 la) ++ be 6 sq from rfl]
    have hpl3 : (([x, y] ++ be 4 la) ++ be 6 sq).length = 12 := by simp [be_len]
    rintro e' w3 ⟨A3, c3, rfl, hown, hbel⟩
    rw [hpl3] at hown ⊢
    have HO3 := Lib.hid hown
    have HB3 := Lib.hid (HB2.out.trans (hbel.mono (HB2.out.size)))
    have HX3 := Lib.hid (HX2.out.below hbel hw2)
    have hw3 : w.heap.size < w3.heap.size := Nat.lt_of_lt_of_le hw2 hbel.size
    obtain ⟨-, -, -, m3, m4, m5⟩ := HX3.out
    clear hown hbel hpl3
    go_wp2_with fail
    clear m3 m4 m5
    refine (put_any (([x, y] ++ be 4 la) ++ be 6 sq) _ 12 c3 _ ta 6 w3 HO3.out.byt (by decide) (Nat.le_refl _) (by decide) (by decide)).mono ?_
    rw [show putB (([x, y] ++ be 4 la) ++ be 6 sq) ta 6 = (([x, y] ++ be 4 la) ++ be 6 sq) ++ be 6 ta from rfl]
    have hpl4 : ((([x, y] ++ be 4 la) ++ be 6 sq) ++ be 6 ta).length = 18 := by simp [be_len]
    rintro e' w4 ⟨A4, c4, rfl, hown, hbel⟩
    rw [hpl4] at hown ⊢
    have HO4 := Lib.hid hown
    have HB4 := Lib.hid (HB3.out.trans (hbel.mono (HB3.out.size)))
    have HX4 := Lib.hid (HX3.out.below hbel hw3)
    have hw4 : w.heap.size < w4.heap.size := Nat.lt_of_lt_of_le hw3 hbel.size
    obtain ⟨-, -, -, m3, m4, m5⟩ := HX4.out
    clear hown hbel hpl4
    go_wp2_with fail
    clear m3 m4 m5
    refine (put_any ((([x, y] ++ be 4 la) ++ be 6 sq) ++ be 6 ta) _ 18 c4 _ no 5 w4 HO4.out.byt (by decide) (Nat.le_refl _) (by decide) (by decide)).mono ?_
    rw [show putB ((([x, y] ++ be 4 la) ++ be 6 sq) ++ be 6 ta) no 5 = ((([x, y] ++ be 4 la) ++ be 6 sq) ++ be 6 ta) ++ be 5 no from rfl]
    have hpl5 : (((([x, y] ++ be 4 la) ++ be 6 sq) ++ be 6 ta) ++ be 5 no).length = 23 := by simp [be_len]
    rintro e' w5 ⟨A5, c5, rfl, hown, hbel⟩
    rw [hpl5] at hown ⊢
    have HO5 := Lib.hid hown
    have HB5 := Lib.hid (HB4.out.trans (hbel.mono (HB4.out.size)))
    have HX5 := Lib.hid (HX4.out.below hbel hw4)
    have hw5 : w.heap.size < w5.heap.size := Nat.lt_of_lt_of_le hw4 hbel.size
    clear hown hbel hpl5
    go_wp2_with fail
    rw [show ((([x, y] ++ be 4 la) ++ be 6 sq) ++ be 6 ta) ++ be 5 no = hbody x y la sq ta no from rfl] at HO5
    refine (encode_any 1 0 t (hbody x y la sq ta no) _ 23 c5 w5.heap.size w5 (HT.out.below HB5.out H0.out) (Nat.lt_of_lt_of_le H0.out HB5.out.size) HO5.out.byt (by decide) (Nat.le_refl _) (by decide) r HE.out).mono ?_
    rintro e' w6 ⟨A6, c6, rfl, hown, hbel⟩
    have HO6 := Lib.hid hown
    have HB6 := Lib.hid (HB5.out.trans (hbel.mono HB5.out.size))
    clear hown hbel
    go_wp2_with fail
    go_ret2
    exact ⟨A6, c6, rfl, HO6.out.mono HB5.out.size, HB6.out⟩

end Go.Proofs.YtepbchaeeldjmaaDoor
