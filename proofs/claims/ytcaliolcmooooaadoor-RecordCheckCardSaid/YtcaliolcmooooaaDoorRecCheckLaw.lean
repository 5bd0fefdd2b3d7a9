/- The walk of the law RecordCheck. -/
import Derived.Test.YtcaliolcmooooaaDoorRecAwake
import Derived.Test.YtcaliolcmooooaaDoorRecCheckRef
namespace Go.Proofs.YtcaliolcmooooaaDoor
open Go.RowKit

set_option maxRecDepth 100000 in
set_option maxHeartbeats 8000000 in
theorem recordCheck_any (v ki ex : Int) (key val : List UInt8) (Ak Av : Option Addr) (nk ck nv cv : Nat) (w : World) (ht : TabAt w) (h0 : 0 < w.heap.size) (_hkb : Byt w w.heap.size Ak nk key) (_hvb : Byt w w.heap.size Av nv val) (hk : nk ≤ ck) (hv : nv ≤ cv) (hck : ck ≤ 9223372036854775807) (hcv : cv ≤ 9223372036854775807) :
    Calls Tryd.prog 8 #[.int .i64 v, .agg #[.int .i64 ki, .slice Ak nk ck, .slice Av nv cv, .int .i64 ex]] w fun e w' => e = .returned (.bool true) ∧ Below w.heap.size w w' := by
  have HT : Hid (∀ w', Below w.heap.size w w' → TabAt w' ∧ 0 < w'.heap.size) := fun w' hw => ⟨ht.below hw h0, Nat.lt_of_lt_of_le h0 hw.size⟩
  obtain ⟨mk, hmk⟩ : ∃ mk, (nk ≤ 260 ∧ mk = nk) ∨ (260 < nk ∧ mk = 260) := by
    by_cases h : nk ≤ 260
    · exact ⟨nk, .inl ⟨h, rfl⟩⟩
    · exact ⟨260, .inr ⟨by omega, rfl⟩⟩
  obtain ⟨mv, hmv⟩ : ∃ mv, (nv ≤ 200 ∧ mv = nv) ∨ (200 < nv ∧ mv = 200) := by
    by_cases h : nv ≤ 200
    · exact ⟨nv, .inl ⟨h, rfl⟩⟩
    · exact ⟨200, .inr ⟨by omega, rfl⟩⟩
  have SH := Lib.hid (short_any ki ex Ak Av nk ck nv cv mk mv hk hv hck hcv hmk hmv)
  obtain ⟨rc, hrc⟩ : ∃ rc, rcheck v ki ex mk mv = rc := ⟨_, rfl⟩
  have CK := Lib.hid (rcheck_any v ki ex Ak Av mk ck mv cv (by omega) (by omega) rc hrc)
  have RK := Lib.hid (refRcheck_any v ki ex Ak Av mk ck mv cv (by omega) (by omega) rc hrc)
  have LN := Lib.hid (length_any ki ex Ak Av mk ck mv cv (by omega) (by omega))
  have RL := Lib.hid (refLength_any ki ex Ak Av mk ck mv cv (by omega) (by omega))
  have HB0 : Hid (Below w.heap.size w (w.alloc (.cells #[.int .i64 ki, .slice Ak nk ck, .slice Av nv cv, .int .i64 ex] 26))) := (Below.refl _ _).alloc (Nat.le_refl _) _
  have HX0 := Lib.hid (BoxR.new w 26 ki ex Ak Av nk ck nv cv)
  have HF0 : Hid (∀ j, (w.alloc (.cells #[.int .i64 ki, .slice Ak nk ck, .slice Av nv cv, .int .i64 ex] 26)).frozen? ⟨w.heap.size, j, none⟩ = false) := fun j => frozen_of_row _ _ j _ _ (heap_alloc_new w _)
  clear ht h0 hmk hmv hk hv hck hcv hrc
  go_enter Tryd.func8, Tryd.ntmps8
  go_wp2_with fail
  refine (SH.out _).mono ?_
  rintro e w1 ⟨rfl, hbel⟩
  have HB1 : Hid (Below w.heap.size w w1) := HB0.out.trans (hbel.mono HB0.out.size)
  have HX1 : Hid (BoxR w1 w.heap.size ki Ak nk ck Av nv cv ex) := HX0.out.below (B := w.heap.size + 1) (hbel.mono (by simp)) (by omega)
  have hw1 : w.heap.size < w1.heap.size := by have := hbel.size; simp at this; omega
  have hfz : ∀ j, w1.frozen? ⟨w.heap.size, j, none⟩ = false := fun j => (hbel.frozen (p := ⟨w.heap.size, j, none⟩) (by simp)).trans (HF0.out j)
  have f0 := hfz 0
  have f1 := hfz 1
  have f2 := hfz 2
  have f3 := hfz 3
  obtain ⟨l0, l1, l2, l3⟩ := HX1.out
  clear hbel hfz
  go_wp2_with fail
  have HS1 := Lib.hid (box_set (ki := ki) (ex := ex) (Ak := Ak) (Av := Av) (nk := mk) (ck := ck) (nv := mv) (cv := cv) HX1.out _ rfl)
  have HB2 := Lib.hid (Below.drew (HB1.out.trans (HS1.out.2.2 _ (Nat.le_refl _))))
  obtain ⟨w2, hw2⟩ : ∃ w2, ((((w1.setCell ⟨w.heap.size, 0, none⟩ (.int .i64 ki)).setCell ⟨w.heap.size, 1, none⟩ (.slice Ak mk ck)).setCell ⟨w.heap.size, 2, none⟩ (.slice Av mv cv)).setCell ⟨w.heap.size, 3, none⟩ (.int .i64 ex)) = w2 := ⟨_, rfl⟩
  rw [hw2] at HS1 HB2 ⊢
  have hw3 : w.heap.size < w2.heap.size := by rw [HS1.out.2.1]; exact hw1
  clear hw2 l0 l1 l2 l3 f0 f1 f2 f3
  obtain ⟨l0, l1, l2, l3⟩ := HS1.out.1
  have HX2 : Hid (BoxR w2.drew w.heap.size ki Ak mk ck Av mv cv ex) := HS1.out.1
  go_region_with (first
    | (go_at_call 13; refine (recAwake_any _ ?_ ?_).mono ?_; exact (HT.out _ HB2.out).1; exact (HT.out _ HB2.out).2; rintro e w5 ⟨rfl, hbel⟩; have HB5 : Hid (Below w.heap.size w w5) := HB2.out.trans (hbel.mono HB2.out.size); have HX5 := Lib.hid (HX2.out.below hbel (show w.heap.size < w2.heap.size from hw3)); have hw5 : w.heap.size < w5.heap.size := Nat.lt_of_lt_of_le hw3 hbel.size; obtain ⟨p0, p1, p2, p3⟩ := HX5.out; clear hbel)
    | (go_at_call 19; (with_reducible refine (CK.out _).mono ?_); rintro e w6 ⟨rfl, hbel⟩; have HB6 : Hid (Below w.heap.size w w6) := HB5.out.trans (hbel.mono HB5.out.size); have HX6 := Lib.hid (HX5.out.below hbel hw5); have hw6 : w.heap.size < w6.heap.size := Nat.lt_of_lt_of_le hw5 hbel.size; obtain ⟨p0, p1, p2, p3⟩ := HX6.out; clear hbel)
    | (go_at_call 12; (with_reducible refine (RK.out _).mono ?_); rintro e w7 ⟨rfl, hbel⟩; have HB7 : Hid (Below w.heap.size w w7) := HB6.out.trans (hbel.mono HB6.out.size); have HX7 := Lib.hid (HX6.out.below hbel hw6); have hw7 : w.heap.size < w7.heap.size := Nat.lt_of_lt_of_le hw6 hbel.size; obtain ⟨p0, p1, p2, p3⟩ := HX7.out; clear hbel)
    | (go_at_call 20; (with_reducible refine (LN.out _).mono ?_); rintro e w8 ⟨rfl, hbel⟩; have HB8 : Hid (Below w.heap.size w w8) := HB7.out.trans (hbel.mono HB7.out.size); obtain ⟨p0, p1, p2, p3⟩ := HX7.out.below hbel hw7; clear hbel)
    | (go_at_call 21; (with_reducible refine (RL.out _).mono ?_); rintro e w9 ⟨rfl, hbel⟩; have HB9 : Hid (Below w.heap.size w w9) := HB8.out.trans (hbel.mono HB8.out.size); clear hbel))
  all_goals (try go_wp2)
  all_goals (go_ret; exact ⟨by first | rfl | simp, HB9.out⟩)
end Go.Proofs.YtcaliolcmooooaaDoor
