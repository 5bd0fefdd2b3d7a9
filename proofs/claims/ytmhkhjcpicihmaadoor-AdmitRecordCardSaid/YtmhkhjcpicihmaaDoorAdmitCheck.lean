/- The walks of admit.Check and its reference. -/
import Derived.Test.YtmhkhjcpicihmaaDoorAdmit
import Derived.Deep.RegionWith
namespace Go.Proofs.YtmhkhjcpicihmaaDoor
open Go.RowKit

/-- A block of a layout. -/
def BoxL (w : World) (g : Nat) (a b c d : Int) : Prop := w.cell? ⟨g, 0, none⟩ = some (.int .i64 a) ∧ w.cell? ⟨g, 1, none⟩ = some (.int .i64 b) ∧ w.cell? ⟨g, 2, none⟩ = some (.int .i64 c) ∧ w.cell? ⟨g, 3, none⟩ = some (.int .i64 d)
theorem BoxL.below {w w' : World} {g B : Nat} {a b c d : Int} (h : BoxL w g a b c d) (hb : Below B w w') (hg : g < B) : BoxL w' g a b c d :=
  ⟨(hb.cell (by exact hg)).trans h.1, (hb.cell (by exact hg)).trans h.2.1, (hb.cell (by exact hg)).trans h.2.2.1, (hb.cell (by exact hg)).trans h.2.2.2⟩
theorem BoxL.new (w : World) (ty : TypeId) (a b c d : Int) : BoxL (w.alloc (.cells #[.int .i64 a, .int .i64 b, .int .i64 c, .int .i64 d] ty)) w.heap.size a b c d :=
  ⟨cell_of_row _ _ _ _ _ _ (heap_alloc_new w _), cell_of_row _ _ _ _ _ _ (heap_alloc_new w _), cell_of_row _ _ _ _ _ _ (heap_alloc_new w _), cell_of_row _ _ _ _ _ _ (heap_alloc_new w _)⟩
theorem BoxL.drew {w : World} {g : Nat} {a b c d : Int} (h : BoxL w g a b c d) : BoxL w.drew g a b c d := h

/-- What Check returns. -/
def checkS (f : Bool) (m cp now ttl : Int) (nk nv : Nat) : Int × Int :=
  if f = false then (0, 4) else if now < 0 ∨ 549755813888 < now ∨ ttl < 0 then (0, 2) else if nk = 0 ∨ 255 < nk then (0, 5) else if 65536 < nv then (0, 6)
  else if ttl ≠ 0 ∧ m - now < ttl then (0, 7) else if cp < 16 + nk + nv then (0, 8) else if ttl = 0 then (0, 0) else (now + ttl, 0)
theorem mostS_in (b : Int) : 4294967295 ≤ mostS b ∧ mostS b ≤ 1099511627775 := by unfold mostS; split <;> decide
theorem capS_in {a b c d : Int} (h : form a b c d = true) : capS a b c d = (c - 1) * 59 ∧ 59 ≤ capS a b c d ∧ capS a b c d ≤ 120773 ∧ 2 ≤ c ∧ c ≤ 2048 ∧ (b = 1 ∨ b = 2) := by
  obtain ⟨_, _, h0, h1, h2, _⟩ := form_true h
  rw [capS, if_pos h]
  refine ⟨rfl, by omega, by omega, h1, h2, h0⟩

set_option maxHeartbeats 8000000 in
theorem check_any (a b c d now ttl : Int) (Ak Av : Option Addr) (nk ck nv cv : Nat) (ha : I64 a) (hb : I64 b) (hc : I64 c) (hd : I64 d) (hnow : I64 now) (httl : I64 ttl) (hk : nk ≤ 1000000) (hv : nv ≤ 1000000) (r : Int × Int) (hr : checkS (form a b c d) (mostS b) (capS a b c d) now ttl nk nv = r) (w : World) :
    Calls Tryd.prog 6 #[.agg #[.int .i64 a, .int .i64 b, .int .i64 c, .int .i64 d], .int .i64 now, .slice Ak nk ck, .slice Av nv cv, .int .i64 ttl] w fun e w' => e = .returned (.tuple #[.int .i64 r.1, .int .i64 r.2]) ∧ Below w.heap.size w w' := by
  have CF := Lib.hid (form_any a b c d ha hb hc hd)
  cases hf : form a b c d
  · rw [hf] at CF hr
    obtain ⟨m, hm⟩ : ∃ m, mostS b = m := ⟨_, rfl⟩
    have LA := Lib.hid (latest_any b m hm)
    rw [hm] at hr
    clear hf hm
    obtain rfl : r = (0, 4) := by rw [← hr]; unfold checkS; (repeat (first | rw [if_pos rfl] | rw [if_neg (by decide)] | rw [if_pos (by omega)] | rw [if_neg (by omega)]))
    clear hr
    unfold I64 at *
    go_enter Tryd.func6, Tryd.ntmps6
    go_wp2_with (first | (go_at_call 11; refine (CF.out _).mono ?_; rintro e w1 ⟨rfl, hb1⟩; have HB1 : Hid (Below w.heap.size w w1) := ((Below.refl _ _).alloc (Nat.le_refl _) _).trans (hb1.mono (by simp)); obtain ⟨l0, l1, l2, l3⟩ := (BoxL.new w 23 a b c d).below hb1 (by simp); have HX1 : Hid (BoxL w1 w.heap.size a b c d) := ⟨l0, l1, l2, l3⟩; have hw1 : w.heap.size < w1.heap.size := (by have := hb1.size; simp at this; omega); clear hb1) | (go_at_call 12; refine (LA.out _).mono ?_; rintro e w' ⟨rfl, rfl⟩))
    go_ret2
    exact ⟨rfl, HB1.out⟩
  obtain ⟨hcp, hcp1, hcp2, hc2, hc3, hb12⟩ := capS_in hf
  obtain ⟨hm1, hm2⟩ := mostS_in b
  obtain ⟨cp, hcpe⟩ : ∃ cp, capS a b c d = cp := ⟨_, rfl⟩
  have CP := Lib.hid (capacity_any a b c d ha hb hc hd cp hcpe)
  obtain ⟨m, hm⟩ : ∃ m, mostS b = m := ⟨_, rfl⟩
  have LA := Lib.hid (latest_any b m hm)
  rw [hf] at CF hr
  rw [hcpe, hm] at hr
  rw [hcpe] at hcp hcp1 hcp2
  rw [hm] at hm1 hm2
  clear hcpe hcp hm hf hb12
  rcases Int.lt_or_le now 0 with h1 | h1
  · obtain rfl : r = (0, 2) := by rw [← hr]; unfold checkS; (repeat (first | rw [if_pos rfl] | rw [if_neg (by decide)] | rw [if_pos (by omega)] | rw [if_neg (by omega)]))
    clear hr
    unfold I64 at *
    go_enter Tryd.func6, Tryd.ntmps6
    go_wp2_with (first | (go_at_call 11; refine (CF.out _).mono ?_; rintro e w1 ⟨rfl, hb1⟩; have HB1 : Hid (Below w.heap.size w w1) := ((Below.refl _ _).alloc (Nat.le_refl _) _).trans (hb1.mono (by simp)); obtain ⟨l0, l1, l2, l3⟩ := (BoxL.new w 23 a b c d).below hb1 (by simp); have HX1 : Hid (BoxL w1 w.heap.size a b c d) := ⟨l0, l1, l2, l3⟩; have hw1 : w.heap.size < w1.heap.size := (by have := hb1.size; simp at this; omega); clear hb1) | (go_at_call 12; refine (LA.out _).mono ?_; rintro e w' ⟨rfl, rfl⟩))
    go_ret2
    exact ⟨rfl, HB1.out⟩
  rcases Int.lt_or_le 549755813888 now with h2 | h2
  · obtain rfl : r = (0, 2) := by rw [← hr]; unfold checkS; (repeat (first | rw [if_pos rfl] | rw [if_neg (by decide)] | rw [if_pos (by omega)] | rw [if_neg (by omega)]))
    clear hr
    unfold I64 at *
    go_enter Tryd.func6, Tryd.ntmps6
    go_wp2_with (first | (go_at_call 11; refine (CF.out _).mono ?_; rintro e w1 ⟨rfl, hb1⟩; have HB1 : Hid (Below w.heap.size w w1) := ((Below.refl _ _).alloc (Nat.le_refl _) _).trans (hb1.mono (by simp)); obtain ⟨l0, l1, l2, l3⟩ := (BoxL.new w 23 a b c d).below hb1 (by simp); have HX1 : Hid (BoxL w1 w.heap.size a b c d) := ⟨l0, l1, l2, l3⟩; have hw1 : w.heap.size < w1.heap.size := (by have := hb1.size; simp at this; omega); clear hb1) | (go_at_call 12; refine (LA.out _).mono ?_; rintro e w' ⟨rfl, rfl⟩))
    go_ret2
    exact ⟨rfl, HB1.out⟩
  rcases Int.lt_or_le ttl 0 with h3 | h3
  · obtain rfl : r = (0, 2) := by rw [← hr]; unfold checkS; (repeat (first | rw [if_pos rfl] | rw [if_neg (by decide)] | rw [if_pos (by omega)] | rw [if_neg (by omega)]))
    clear hr
    unfold I64 at *
    go_enter Tryd.func6, Tryd.ntmps6
    go_wp2_with (first | (go_at_call 11; refine (CF.out _).mono ?_; rintro e w1 ⟨rfl, hb1⟩; have HB1 : Hid (Below w.heap.size w w1) := ((Below.refl _ _).alloc (Nat.le_refl _) _).trans (hb1.mono (by simp)); obtain ⟨l0, l1, l2, l3⟩ := (BoxL.new w 23 a b c d).below hb1 (by simp); have HX1 : Hid (BoxL w1 w.heap.size a b c d) := ⟨l0, l1, l2, l3⟩; have hw1 : w.heap.size < w1.heap.size := (by have := hb1.size; simp at this; omega); clear hb1) | (go_at_call 12; refine (LA.out _).mono ?_; rintro e w' ⟨rfl, rfl⟩))
    go_ret2
    exact ⟨rfl, HB1.out⟩
  by_cases h4 : nk = 0
  · subst h4
    obtain rfl : r = (0, 5) := by rw [← hr]; unfold checkS; (repeat (first | rw [if_pos rfl] | rw [if_neg (by decide)] | rw [if_pos (by omega)] | rw [if_neg (by omega)]))
    clear hr
    unfold I64 at *
    go_enter Tryd.func6, Tryd.ntmps6
    go_wp2_with (first | (go_at_call 11; refine (CF.out _).mono ?_; rintro e w1 ⟨rfl, hb1⟩; have HB1 : Hid (Below w.heap.size w w1) := ((Below.refl _ _).alloc (Nat.le_refl _) _).trans (hb1.mono (by simp)); obtain ⟨l0, l1, l2, l3⟩ := (BoxL.new w 23 a b c d).below hb1 (by simp); have HX1 : Hid (BoxL w1 w.heap.size a b c d) := ⟨l0, l1, l2, l3⟩; have hw1 : w.heap.size < w1.heap.size := (by have := hb1.size; simp at this; omega); clear hb1) | (go_at_call 12; refine (LA.out _).mono ?_; rintro e w' ⟨rfl, rfl⟩))
    go_ret2
    exact ⟨rfl, HB1.out⟩
  by_cases h5 : 255 < nk
  · obtain rfl : r = (0, 5) := by rw [← hr]; unfold checkS; (repeat (first | rw [if_pos rfl] | rw [if_neg (by decide)] | rw [if_pos (by omega)] | rw [if_neg (by omega)]))
    clear hr
    unfold I64 at *
    go_enter Tryd.func6, Tryd.ntmps6
    go_wp2_with (first | (go_at_call 11; refine (CF.out _).mono ?_; rintro e w1 ⟨rfl, hb1⟩; have HB1 : Hid (Below w.heap.size w w1) := ((Below.refl _ _).alloc (Nat.le_refl _) _).trans (hb1.mono (by simp)); obtain ⟨l0, l1, l2, l3⟩ := (BoxL.new w 23 a b c d).below hb1 (by simp); have HX1 : Hid (BoxL w1 w.heap.size a b c d) := ⟨l0, l1, l2, l3⟩; have hw1 : w.heap.size < w1.heap.size := (by have := hb1.size; simp at this; omega); clear hb1) | (go_at_call 12; refine (LA.out _).mono ?_; rintro e w' ⟨rfl, rfl⟩))
    go_ret2
    exact ⟨rfl, HB1.out⟩
  have h4' : ((nk : Int) == 0) = false := by simp only [beq_eq_false_iff_ne]; omega
  have h5' : ¬ (255 : Int) < (nk : Int) := by omega
  by_cases h6 : 65536 < nv
  · obtain rfl : r = (0, 6) := by rw [← hr]; unfold checkS; (repeat (first | rw [if_pos rfl] | rw [if_neg (by decide)] | rw [if_pos (by omega)] | rw [if_neg (by omega)]))
    clear hr
    unfold I64 at *
    go_enter Tryd.func6, Tryd.ntmps6
    go_wp2_with (first | (go_at_call 11; refine (CF.out _).mono ?_; rintro e w1 ⟨rfl, hb1⟩; have HB1 : Hid (Below w.heap.size w w1) := ((Below.refl _ _).alloc (Nat.le_refl _) _).trans (hb1.mono (by simp)); obtain ⟨l0, l1, l2, l3⟩ := (BoxL.new w 23 a b c d).below hb1 (by simp); have HX1 : Hid (BoxL w1 w.heap.size a b c d) := ⟨l0, l1, l2, l3⟩; have hw1 : w.heap.size < w1.heap.size := (by have := hb1.size; simp at this; omega); clear hb1) | (go_at_call 12; refine (LA.out _).mono ?_; rintro e w' ⟨rfl, rfl⟩))
    go_ret2
    exact ⟨rfl, HB1.out⟩
  by_cases h7 : ttl = 0
  · subst h7
    by_cases h8 : cp < 16 + (nk : Int) + (nv : Int)
    · obtain rfl : r = (0, 8) := by rw [← hr]; unfold checkS; (repeat (first | rw [if_pos rfl] | rw [if_neg (by decide)] | rw [if_pos (by omega)] | rw [if_neg (by omega)]))
      clear hr
      unfold I64 at *
      go_enter Tryd.func6, Tryd.ntmps6
      go_wp2_with (first | (go_at_call 11; refine (CF.out _).mono ?_; rintro e w1 ⟨rfl, hb1⟩; have HB1 : Hid (Below w.heap.size w w1) := ((Below.refl _ _).alloc (Nat.le_refl _) _).trans (hb1.mono (by simp)); obtain ⟨l0, l1, l2, l3⟩ := (BoxL.new w 23 a b c d).below hb1 (by simp); have HX1 : Hid (BoxL w1 w.heap.size a b c d) := ⟨l0, l1, l2, l3⟩; have hw1 : w.heap.size < w1.heap.size := (by have := hb1.size; simp at this; omega); clear hb1) | (go_at_call 12; refine (LA.out _).mono ?_; rintro e w' ⟨rfl, rfl⟩))
      go_region_with (first | (go_at_call 13; refine (alength_any 0 0 Ak Av nk nv ck cv hk hv _).mono ?_; rintro e w2 ⟨rfl, hb2⟩; have HB2 : Hid (Below w.heap.size w w2) := (HB1.out.drew).trans (hb2.mono HB1.out.size); obtain ⟨m0, m1, m2, m3⟩ := HX1.out.drew.below hb2 hw1; clear hb2) | (go_at_call 14; refine (CP.out _).mono ?_; rintro e w3 ⟨rfl, hb3⟩; have HB3 := Lib.hid (HB2.out.trans (hb3.mono HB2.out.size)); clear hb3))
      all_goals (try go_wp2)
      all_goals (go_ret2; exact ⟨rfl, HB3.out⟩)
    · obtain rfl : r = (0, 0) := by rw [← hr]; unfold checkS; (repeat (first | rw [if_pos rfl] | rw [if_neg (by decide)] | rw [if_pos (by omega)] | rw [if_neg (by omega)]))
      clear hr
      unfold I64 at *
      go_enter Tryd.func6, Tryd.ntmps6
      go_wp2_with (first | (go_at_call 11; refine (CF.out _).mono ?_; rintro e w1 ⟨rfl, hb1⟩; have HB1 : Hid (Below w.heap.size w w1) := ((Below.refl _ _).alloc (Nat.le_refl _) _).trans (hb1.mono (by simp)); obtain ⟨l0, l1, l2, l3⟩ := (BoxL.new w 23 a b c d).below hb1 (by simp); have HX1 : Hid (BoxL w1 w.heap.size a b c d) := ⟨l0, l1, l2, l3⟩; have hw1 : w.heap.size < w1.heap.size := (by have := hb1.size; simp at this; omega); clear hb1) | (go_at_call 12; refine (LA.out _).mono ?_; rintro e w' ⟨rfl, rfl⟩))
      go_region_with (first | (go_at_call 13; refine (alength_any 0 0 Ak Av nk nv ck cv hk hv _).mono ?_; rintro e w2 ⟨rfl, hb2⟩; have HB2 : Hid (Below w.heap.size w w2) := (HB1.out.drew).trans (hb2.mono HB1.out.size); obtain ⟨m0, m1, m2, m3⟩ := HX1.out.drew.below hb2 hw1; clear hb2) | (go_at_call 14; refine (CP.out _).mono ?_; rintro e w3 ⟨rfl, hb3⟩; have HB3 := Lib.hid (HB2.out.trans (hb3.mono HB2.out.size)); clear hb3))
      all_goals (try go_wp2)
      all_goals (go_ret2; exact ⟨rfl, HB3.out⟩)
  have h7' : 0 < ttl := by omega
  by_cases h9 : m - now < ttl
  · obtain rfl : r = (0, 7) := by rw [← hr]; unfold checkS; (repeat (first | rw [if_pos rfl] | rw [if_neg (by decide)] | rw [if_pos (by omega)] | rw [if_neg (by omega)]))
    clear hr
    unfold I64 at *
    go_enter Tryd.func6, Tryd.ntmps6
    go_wp2_with (first | (go_at_call 11; refine (CF.out _).mono ?_; rintro e w1 ⟨rfl, hb1⟩; have HB1 : Hid (Below w.heap.size w w1) := ((Below.refl _ _).alloc (Nat.le_refl _) _).trans (hb1.mono (by simp)); obtain ⟨l0, l1, l2, l3⟩ := (BoxL.new w 23 a b c d).below hb1 (by simp); have HX1 : Hid (BoxL w1 w.heap.size a b c d) := ⟨l0, l1, l2, l3⟩; have hw1 : w.heap.size < w1.heap.size := (by have := hb1.size; simp at this; omega); clear hb1) | (go_at_call 12; refine (LA.out _).mono ?_; rintro e w' ⟨rfl, rfl⟩))
    go_ret2
    exact ⟨rfl, HB1.out⟩
  by_cases h8 : cp < 16 + (nk : Int) + (nv : Int)
  · obtain rfl : r = (0, 8) := by rw [← hr]; unfold checkS; (repeat (first | rw [if_pos rfl] | rw [if_neg (by decide)] | rw [if_pos (by omega)] | rw [if_neg (by omega)]))
    clear hr
    unfold I64 at *
    go_enter Tryd.func6, Tryd.ntmps6
    go_wp2_with (first | (go_at_call 11; refine (CF.out _).mono ?_; rintro e w1 ⟨rfl, hb1⟩; have HB1 : Hid (Below w.heap.size w w1) := ((Below.refl _ _).alloc (Nat.le_refl _) _).trans (hb1.mono (by simp)); obtain ⟨l0, l1, l2, l3⟩ := (BoxL.new w 23 a b c d).below hb1 (by simp); have HX1 : Hid (BoxL w1 w.heap.size a b c d) := ⟨l0, l1, l2, l3⟩; have hw1 : w.heap.size < w1.heap.size := (by have := hb1.size; simp at this; omega); clear hb1) | (go_at_call 12; refine (LA.out _).mono ?_; rintro e w' ⟨rfl, rfl⟩))
    go_region_with (first | (go_at_call 13; refine (alength_any 0 0 Ak Av nk nv ck cv hk hv _).mono ?_; rintro e w2 ⟨rfl, hb2⟩; have HB2 : Hid (Below w.heap.size w w2) := (HB1.out.drew).trans (hb2.mono HB1.out.size); obtain ⟨m0, m1, m2, m3⟩ := HX1.out.drew.below hb2 hw1; clear hb2) | (go_at_call 14; refine (CP.out _).mono ?_; rintro e w3 ⟨rfl, hb3⟩; have HB3 := Lib.hid (HB2.out.trans (hb3.mono HB2.out.size)); clear hb3))
    all_goals (try go_wp2)
    all_goals (go_ret2; exact ⟨rfl, HB3.out⟩)
  · obtain rfl : r = (now + ttl, 0) := by rw [← hr]; unfold checkS; (repeat (first | rw [if_pos rfl] | rw [if_neg (by decide)] | rw [if_pos (by omega)] | rw [if_neg (by omega)]))
    clear hr
    unfold I64 at *
    go_enter Tryd.func6, Tryd.ntmps6
    go_wp2_with (first | (go_at_call 11; refine (CF.out _).mono ?_; rintro e w1 ⟨rfl, hb1⟩; have HB1 : Hid (Below w.heap.size w w1) := ((Below.refl _ _).alloc (Nat.le_refl _) _).trans (hb1.mono (by simp)); obtain ⟨l0, l1, l2, l3⟩ := (BoxL.new w 23 a b c d).below hb1 (by simp); have HX1 : Hid (BoxL w1 w.heap.size a b c d) := ⟨l0, l1, l2, l3⟩; have hw1 : w.heap.size < w1.heap.size := (by have := hb1.size; simp at this; omega); clear hb1) | (go_at_call 12; refine (LA.out _).mono ?_; rintro e w' ⟨rfl, rfl⟩))
    go_region_with (first | (go_at_call 13; refine (alength_any 0 0 Ak Av nk nv ck cv hk hv _).mono ?_; rintro e w2 ⟨rfl, hb2⟩; have HB2 : Hid (Below w.heap.size w w2) := (HB1.out.drew).trans (hb2.mono HB1.out.size); obtain ⟨m0, m1, m2, m3⟩ := HX1.out.drew.below hb2 hw1; clear hb2) | (go_at_call 14; refine (CP.out _).mono ?_; rintro e w3 ⟨rfl, hb3⟩; have HB3 := Lib.hid (HB2.out.trans (hb3.mono HB2.out.size)); clear hb3))
    all_goals (try go_wp2)
    all_goals (go_ret2; exact ⟨rfl, HB3.out⟩)


end Go.Proofs.YtmhkhjcpicihmaaDoor
