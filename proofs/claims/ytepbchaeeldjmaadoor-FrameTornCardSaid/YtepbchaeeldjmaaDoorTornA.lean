/- The walk of the law FrameTorn: an error, the empty change. -/
import Derived.Test.YtepbchaeeldjmaaDoorBurst
namespace Go.Proofs.YtepbchaeeldjmaaDoor
open Go.RowKit

theorem Box3.drew {w : World} {g : Nat} {a b c : Int} (h : Box3 w g a b c) : Box3 w.drew g a b c := h

theorem torn_pre0 (k s t : Int) (x0 x1 x2 x3 : UInt8) (w : World) (o : Obj) (e e' : TypeId) : Below w.heap.size w (((w.alloc o).alloc (.cells #[.int .i64 k, .int .i64 s, .int .i64 t] e)).alloc (.cells #[.int .u8 (x0.toNat : Int), .int .u8 (x1.toNat : Int), .int .u8 (x2.toNat : Int), .int .u8 (x3.toNat : Int)] e')).drew ∧ Box3 (((w.alloc o).alloc (.cells #[.int .i64 k, .int .i64 s, .int .i64 t] e)).alloc (.cells #[.int .u8 (x0.toNat : Int), .int .u8 (x1.toNat : Int), .int .u8 (x2.toNat : Int), .int .u8 (x3.toNat : Int)] e')).drew (w.heap.size + 1) k s t ∧ Box4 (((w.alloc o).alloc (.cells #[.int .i64 k, .int .i64 s, .int .i64 t] e)).alloc (.cells #[.int .u8 (x0.toNat : Int), .int .u8 (x1.toNat : Int), .int .u8 (x2.toNat : Int), .int .u8 (x3.toNat : Int)] e')).drew (w.heap.size + 1 + 1) x0 x1 x2 x3 := by
  refine ⟨Below.drew (Below.alloc (Below.alloc (Below.alloc (Below.refl _ _) (Nat.le_refl _) _) (by simp) _) (by simp; omega) _), ?_, ?_⟩
  · have h1 := Box3.new (w.alloc o) e k s t
    rw [World.size_alloc] at h1
    refine h1.below (B := w.heap.size + 1 + 1) ?_ (by omega)
    exact Below.drew (Below.alloc (Below.refl _ _) (by simp) _)
  · have h1 := Box4.new ((w.alloc o).alloc (.cells #[.int .i64 k, .int .i64 s, .int .i64 t] e)) e' x0 x1 x2 x3
    rw [World.size_alloc, World.size_alloc] at h1
    exact h1
theorem torn_pre1 (k s t : Int) (x0 x1 x2 x3 : UInt8) (w : World) (o : Obj) (e e' : TypeId) : Below w.heap.size w (((w.alloc o).alloc (.cells #[.int .u8 (x0.toNat : Int), .int .u8 (x1.toNat : Int), .int .u8 (x2.toNat : Int), .int .u8 (x3.toNat : Int)] e')).alloc (.cells #[.int .i64 k, .int .i64 s, .int .i64 t] e)).drew ∧ Box3 (((w.alloc o).alloc (.cells #[.int .u8 (x0.toNat : Int), .int .u8 (x1.toNat : Int), .int .u8 (x2.toNat : Int), .int .u8 (x3.toNat : Int)] e')).alloc (.cells #[.int .i64 k, .int .i64 s, .int .i64 t] e)).drew (w.heap.size + 1 + 1) k s t ∧ Box4 (((w.alloc o).alloc (.cells #[.int .u8 (x0.toNat : Int), .int .u8 (x1.toNat : Int), .int .u8 (x2.toNat : Int), .int .u8 (x3.toNat : Int)] e')).alloc (.cells #[.int .i64 k, .int .i64 s, .int .i64 t] e)).drew (w.heap.size + 1) x0 x1 x2 x3 := by
  refine ⟨Below.drew (Below.alloc (Below.alloc (Below.alloc (Below.refl _ _) (Nat.le_refl _) _) (by simp) _) (by simp; omega) _), ?_, ?_⟩
  · have h1 := Box3.new ((w.alloc o).alloc (.cells #[.int .u8 (x0.toNat : Int), .int .u8 (x1.toNat : Int), .int .u8 (x2.toNat : Int), .int .u8 (x3.toNat : Int)] e')) e k s t
    rw [World.size_alloc, World.size_alloc] at h1
    exact h1
  · have h1 := Box4.new (w.alloc o) e' x0 x1 x2 x3
    rw [World.size_alloc] at h1
    refine h1.below (B := w.heap.size + 1 + 1) ?_ (by omega)
    exact Below.drew (Below.alloc (Below.refl _ _) (by simp) _)

set_option maxHeartbeats 4000000 in
theorem frameTorn_err (k s t : Int) (p : List UInt8) (A : Option Addr) (n m cap : Nat) (pos : Int) (x0 x1 x2 x3 : UInt8) (w : World) (HT : Hid (∀ w', Below w.heap.size w w' → TabAt w' ∧ 0 < w'.heap.size)) (HB : Hid (∀ w', Below w.heap.size w w' → Byt w' w.heap.size A m p))
    (HMIN : Hid ((if (59 : Int) < (n : Int) then (59 : Int) else (n : Int)) = (m : Int))) (hmn : m ≤ n) (hm59 : m ≤ 59) (hn : n ≤ cap) (_hcap : cap ≤ 9223372036854775807) (hs : s ≤ 9223372036854775807)
    (HE : Hid (encS k s t p = ([], 2))) :
    Calls Tryd.prog 6 #[.agg #[.int .i64 k, .int .i64 s, .int .i64 t, .slice A n cap, .int .i64 pos, .int .u8 (x0.toNat : Int), .int .u8 (x1.toNat : Int), .int .u8 (x2.toNat : Int), .int .u8 (x3.toNat : Int)]] w fun e w' => e = .returned (.bool true) ∧ Below w.heap.size w w' := by
  have H0 := Lib.hid (torn_pre0 k s t x0 x1 x2 x3 w)
  have H1 := Lib.hid (torn_pre1 k s t x0 x1 x2 x3 w)
  go_enter Tryd.func6, Tryd.ntmps6
  go_wp2_with fail
  go_region
  all_goals
    go_wp2_with (refine wpList_min rfl _ _ rfl (p := (n : Int)) (q := 59) (m := (m : Int)) ?_ ?_ ?_ ?_; rfl; rfl; exact HMIN.out)
  · refine (encode_any k s t p _ _ _ w.heap.size _ (HT.out _ (H0.out _ _ _).1).1 (HT.out _ (H0.out _ _ _).1).2 (HB.out _ (H0.out _ _ _).1) (by omega) (H0.out _ _ _).1.size hs _ HE.out).mono ?_
    rintro e w1 ⟨A1, c1, rfl, hown, hbel⟩
    have HB1 : Hid (Below w.heap.size w w1) := (H0.out _ _ _).1.trans (hbel.mono (H0.out _ _ _).1.size)
    clear hown hbel
    go_wp2_with fail
    refine (frameAwake_any w1 (HT.out _ HB1.out).1 (HT.out _ HB1.out).2).mono ?_
    rintro e w3 ⟨rfl, hbel⟩
    have HB3 := Lib.hid (HB1.out.trans (hbel.mono HB1.out.size))
    clear hbel
    go_wp2
    go_ret
    exact ⟨rfl, HB3.out⟩
  · refine (encode_any k s t p _ _ _ w.heap.size _ (HT.out _ (H1.out _ _ _).1).1 (HT.out _ (H1.out _ _ _).1).2 (HB.out _ (H1.out _ _ _).1) (by omega) (H1.out _ _ _).1.size hs _ HE.out).mono ?_
    rintro e w1 ⟨A1, c1, rfl, hown, hbel⟩
    have HB1 : Hid (Below w.heap.size w w1) := (H1.out _ _ _).1.trans (hbel.mono (H1.out _ _ _).1.size)
    clear hown hbel
    go_wp2_with fail
    refine (frameAwake_any w1 (HT.out _ HB1.out).1 (HT.out _ HB1.out).2).mono ?_
    rintro e w3 ⟨rfl, hbel⟩
    have HB3 := Lib.hid (HB1.out.trans (hbel.mono HB1.out.size))
    clear hbel
    go_wp2
    go_ret
    exact ⟨rfl, HB3.out⟩

set_option maxHeartbeats 4000000 in
theorem frameTorn_zero (k s t : Int) (p : List UInt8) (A : Option Addr) (n m cap : Nat) (pos : Int) (x0 x1 x2 x3 : UInt8) (w : World) (HT : Hid (∀ w', Below w.heap.size w w' → TabAt w' ∧ 0 < w'.heap.size)) (HB : Hid (∀ w', Below w.heap.size w w' → Byt w' w.heap.size A m p))
    (HMIN : Hid ((if (59 : Int) < (n : Int) then (59 : Int) else (n : Int)) = (m : Int))) (hmn : m ≤ n) (hm59 : m ≤ 59) (hn : n ≤ cap) (_hcap : cap ≤ 9223372036854775807) (hs : s ≤ 9223372036854775807)
    (fr : List UInt8) (HE : Hid (encS k s t p = (fr, 0))) (HFL : Hid (fr.length = 64))
    (heq : ∀ w : World, (Op.equalIn 10000 36 (.agg #[.int .u8 (x0.toNat : Int), .int .u8 (x1.toNat : Int), .int .u8 (x2.toNat : Int), .int .u8 (x3.toNat : Int)]) (.agg #[.int .u8 0, .int .u8 0, .int .u8 0, .int .u8 0])).run Tryd.prog w = .ok true w) :
    Calls Tryd.prog 6 #[.agg #[.int .i64 k, .int .i64 s, .int .i64 t, .slice A n cap, .int .i64 pos, .int .u8 (x0.toNat : Int), .int .u8 (x1.toNat : Int), .int .u8 (x2.toNat : Int), .int .u8 (x3.toNat : Int)]] w fun e w' => e = .returned (.bool true) ∧ Below w.heap.size w w' := by
  have H0 := Lib.hid (torn_pre0 k s t x0 x1 x2 x3 w)
  have H1 := Lib.hid (torn_pre1 k s t x0 x1 x2 x3 w)
  go_enter Tryd.func6, Tryd.ntmps6
  go_wp2_with fail
  go_region
  all_goals
    go_wp2_with (refine wpList_min rfl _ _ rfl (p := (n : Int)) (q := 59) (m := (m : Int)) ?_ ?_ ?_ ?_; rfl; rfl; exact HMIN.out)
  · refine (encode_any k s t p _ _ _ w.heap.size _ (HT.out _ (H0.out _ _ _).1).1 (HT.out _ (H0.out _ _ _).1).2 (HB.out _ (H0.out _ _ _).1) (by omega) (H0.out _ _ _).1.size hs _ HE.out).mono ?_
    rintro e w1 ⟨A1, c1, rfl, hown, hbel⟩
    simp only [HFL.out] at hown ⊢
    obtain ⟨g, rfl⟩ := hown.head (by decide)
    obtain ⟨_, _, hv, hc1, hc2⟩ := hown.form
    injection hv with hv1 hv2 hv3
    subst hv3
    have hbel1 : Below (w.heap.size + 1 + 1 + 1) _ w1 := hbel.mono (by simp)
    have HO1 : Hid (Own w1 (w.heap.size + 1 + 1 + 1) 5 (.slice (some ⟨g, 0, none⟩) 64 c1) 64 fr) := hown.mono (by simp)
    have HB1 : Hid (Below w.heap.size w w1) := (H0.out _ _ _).1.trans (hbel.mono (H0.out _ _ _).1.size)
    have HP1 := Lib.hid ((H0.out _ _ _).2.1.below hbel1 (by omega))
    have HX1 := Lib.hid ((H0.out _ _ _).2.2.below hbel1 (by omega))
    have hw1 : w.heap.size + 1 + 1 + 1 ≤ w1.heap.size := by have := hbel.size; simpa using this
    clear hown hbel hbel1 hv1 hv2
    obtain ⟨y0, y1, y2, y3⟩ : w1.cell? ⟨(w.heap.size + 1 + 1), 0, none⟩ = some (.int .u8 (x0.toNat : Int)) ∧ w1.cell? ⟨(w.heap.size + 1 + 1), 1, none⟩ = some (.int .u8 (x1.toNat : Int)) ∧ w1.cell? ⟨(w.heap.size + 1 + 1), 2, none⟩ = some (.int .u8 (x2.toNat : Int)) ∧ w1.cell? ⟨(w.heap.size + 1 + 1), 3, none⟩ = some (.int .u8 (x3.toNat : Int)) := ⟨HX1.out 0 x0 rfl, HX1.out 1 x1 rfl, HX1.out 2 x2 rfl, HX1.out 3 x3 rfl⟩
    go_wp2_with fail
    refine (frameAwake_any w1 (HT.out _ HB1.out).1 (HT.out _ HB1.out).2).mono ?_
    rintro e w3 ⟨rfl, hbel⟩
    have HB3 := Lib.hid (HB1.out.trans (hbel.mono HB1.out.size))
    clear hbel
    go_wp2
    go_ret
    exact ⟨rfl, HB3.out⟩
  · refine (encode_any k s t p _ _ _ w.heap.size _ (HT.out _ (H1.out _ _ _).1).1 (HT.out _ (H1.out _ _ _).1).2 (HB.out _ (H1.out _ _ _).1) (by omega) (H1.out _ _ _).1.size hs _ HE.out).mono ?_
    rintro e w1 ⟨A1, c1, rfl, hown, hbel⟩
    simp only [HFL.out] at hown ⊢
    obtain ⟨g, rfl⟩ := hown.head (by decide)
    obtain ⟨_, _, hv, hc1, hc2⟩ := hown.form
    injection hv with hv1 hv2 hv3
    subst hv3
    have hbel1 : Below (w.heap.size + 1 + 1 + 1) _ w1 := hbel.mono (by simp)
    have HO1 : Hid (Own w1 (w.heap.size + 1 + 1 + 1) 5 (.slice (some ⟨g, 0, none⟩) 64 c1) 64 fr) := hown.mono (by simp)
    have HB1 : Hid (Below w.heap.size w w1) := (H1.out _ _ _).1.trans (hbel.mono (H1.out _ _ _).1.size)
    have HP1 := Lib.hid ((H1.out _ _ _).2.1.below hbel1 (by omega))
    have HX1 := Lib.hid ((H1.out _ _ _).2.2.below hbel1 (by omega))
    have hw1 : w.heap.size + 1 + 1 + 1 ≤ w1.heap.size := by have := hbel.size; simpa using this
    clear hown hbel hbel1 hv1 hv2
    obtain ⟨y0, y1, y2, y3⟩ : w1.cell? ⟨(w.heap.size + 1), 0, none⟩ = some (.int .u8 (x0.toNat : Int)) ∧ w1.cell? ⟨(w.heap.size + 1), 1, none⟩ = some (.int .u8 (x1.toNat : Int)) ∧ w1.cell? ⟨(w.heap.size + 1), 2, none⟩ = some (.int .u8 (x2.toNat : Int)) ∧ w1.cell? ⟨(w.heap.size + 1), 3, none⟩ = some (.int .u8 (x3.toNat : Int)) := ⟨HX1.out 0 x0 rfl, HX1.out 1 x1 rfl, HX1.out 2 x2 rfl, HX1.out 3 x3 rfl⟩
    go_wp2_with fail
    refine (frameAwake_any w1 (HT.out _ HB1.out).1 (HT.out _ HB1.out).2).mono ?_
    rintro e w3 ⟨rfl, hbel⟩
    have HB3 := Lib.hid (HB1.out.trans (hbel.mono HB1.out.size))
    clear hbel
    go_wp2
    go_ret
    exact ⟨rfl, HB3.out⟩
end Go.Proofs.YtepbchaeeldjmaaDoor
