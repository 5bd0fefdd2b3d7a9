/- The walk of the law PlanEncode. -/
import Derived.Test.YthjnbdbbeidhgaaDoorPlanDec
import Derived.Test.YthjnbdbbeidhgaaDoorPlanAwake
import Derived.Laws.StructEq
namespace Go.Proofs.YthjnbdbbeidhgaaDoor
open Go.RowKit

theorem ofDrews {B : Nat} {a w : World} (h : Below B a w) (n : Nat) : Below B a (w.drewN n) := ⟨h.os, h.tape, h.output, h.size, h.block⟩
set_option maxHeartbeats 400000 in
theorem pln_eq (k m i t a b c d : Int) (w : World) : (Op.equalIn 10000 25 (.agg #[.int .i64 k, .int .i64 m, .int .i64 i, .int .i64 t, .int .i64 a, .int .i64 b, .int .i64 c, .int .i64 d]) (.agg #[.int .i64 k, .int .i64 m, .int .i64 i, .int .i64 t, .int .i64 a, .int .i64 b, .int .i64 c, .int .i64 d])).run Tryd.prog w = .ok true w := by
  go_simp

set_option maxRecDepth 100000 in
set_option maxHeartbeats 4000000 in
theorem planEncode_any (k m i t a b c d sc : Int) (ha : I64 a) (hb : I64 b) (hc : I64 c) (hd : I64 d) (w : World) (ht : TabAt w) (h0 : 0 < w.heap.size) :
    Calls Tryd.prog 3 #[.agg #[.int .i64 k, .int .i64 m, .int .i64 i, .int .i64 t, .int .i64 a, .int .i64 b, .int .i64 c, .int .i64 d], .int .i64 sc] w fun e w' => e = .returned (.bool true) ∧ Below w.heap.size w w' := by
  have HT : Hid (∀ w', Below w.heap.size w w' → TabAt w' ∧ 0 < w'.heap.size) := fun w' hw => ⟨ht.below hw h0, Nat.lt_of_lt_of_le h0 hw.size⟩
  obtain ⟨vb, hvb⟩ : ∃ x, pvalid (k, m, i, t, a, b, c, d) = x := ⟨_, rfl⟩
  have PV := Lib.hid (pvalid_any k m i t a b c d ha hb hc hd vb hvb)
  have RV := Lib.hid (refPvalid_any k m i t a b c d ha hb hc hd vb hvb)
  obtain ⟨⟨x, e0⟩, hx⟩ : ∃ r, pencS (k, m, i, t, a, b, c, d) sc = r := ⟨_, rfl⟩
  have PE := Lib.hid (fun (u : World) (hu : Below w.heap.size w u) => pencode_any k m i t a b c d sc ha hb hc hd u (HT.out _ hu).1 (HT.out _ hu).2 (x, e0) hx)
  have hC : (vb = false ∧ e0 = 4 ∧ x = []) ∨ (vb = true ∧ (sc < 0 ∨ 1048576 ≤ sc) ∧ e0 = 2 ∧ x = []) ∨ (vb = true ∧ 0 ≤ sc ∧ sc < 1048576 ∧ e0 = 0 ∧ pencF (k, m, i, t, a, b, c, d) sc = x ∧ pdecW pread sc x = some (k, m, i, t, a, b, c, d)) := by
    cases vb
    · rw [pencS_bad hvb] at hx; injection hx with h1 h2; exact .inl ⟨rfl, h2.symm, h1.symm⟩
    · by_cases hm : may 4 0 sc = true
      · rw [pencS_ok hvb hm] at hx; injection hx with h1 h2
        have := (may_iff _ _ _).1 hm
        exact .inr (.inr ⟨rfl, by omega, by omega, h2.symm, h1, by rw [← h1]; exact pdec_enc hvb hm⟩)
      · have hm' : may 4 0 sc = false := by simpa using hm
        rw [pencS_range hvb hm'] at hx; injection hx with h1 h2
        refine .inr (.inl ⟨rfl, ?_, h2.symm, h1.symm⟩)
        by_cases h : sc < 0 ∨ 1048576 ≤ sc
        · exact h
        · exact absurd ((may_iff 4 0 sc).2 (by omega)) hm
  have HC := Lib.hid hC
  have HV := Lib.hid hvb
  have HB0 : Hid (Below w.heap.size w (w.alloc (.cells #[.int .i64 k, .int .i64 m, .int .i64 i, .int .i64 t, .int .i64 a, .int .i64 b, .int .i64 c, .int .i64 d] 25))) := (Below.refl _ _).alloc (Nat.le_refl _) _
  have HX0 := Lib.hid (Cells.new w 25 #[.int .i64 k, .int .i64 m, .int .i64 i, .int .i64 t, .int .i64 a, .int .i64 b, .int .i64 c, .int .i64 d])
  have hz0 : w.heap.size < (w.alloc (.cells #[.int .i64 k, .int .i64 m, .int .i64 i, .int .i64 t, .int .i64 a, .int .i64 b, .int .i64 c, .int .i64 d] 25)).heap.size := by simp
  have heq := pln_eq k m i t a b c d
  clear hC hx hvb ht h0 ha hb hc hd
  have AW := Lib.hid (fun (u : World) => planAwake_any u)
  go_enter Tryd.func3, Tryd.ntmps3
  go_wp2_with fail
  refine (PE.out _ HB0.out).mono ?_
  rintro e w1 ⟨A1, c1, rfl, hown, hbel⟩
  simp only at hown ⊢
  have HO1 := Lib.hid hown
  have HB1 := Lib.hid (HB0.out.trans (hbel.mono HB0.out.size))
  have HX1 := Lib.hid (HX0.out.below hbel hz0)
  have hw1 : w.heap.size < w1.heap.size := Nat.lt_of_lt_of_le hz0 hbel.size
  clear hown hbel
  have l0 := HX1.out 0 _ rfl
  have l1 := HX1.out 1 _ rfl
  have l2 := HX1.out 2 _ rfl
  have l3 := HX1.out 3 _ rfl
  have l4 := HX1.out 4 _ rfl
  have l5 := HX1.out 5 _ rfl
  have l6 := HX1.out 6 _ rfl
  have l7 := HX1.out 7 _ rfl
  go_upto_region 2 with fail
  go_cut [19] (fun q wx => q = .bool false ∧ Below w1.heap.size w1 wx)
  case first =>
    go_region_held3 (fun w' => w'.cell? ⟨w.heap.size, 0, none⟩ = some (.int .i64 k) ∧ w'.cell? ⟨w.heap.size, 1, none⟩ = some (.int .i64 m) ∧ w'.cell? ⟨w.heap.size, 2, none⟩ = some (.int .i64 i) ∧ w'.cell? ⟨w.heap.size, 3, none⟩ = some (.int .i64 t) ∧ w'.cell? ⟨w.heap.size, 4, none⟩ = some (.int .i64 a) ∧ w'.cell? ⟨w.heap.size, 5, none⟩ = some (.int .i64 b) ∧ w'.cell? ⟨w.heap.size, 6, none⟩ = some (.int .i64 c) ∧ w'.cell? ⟨w.heap.size, 7, none⟩ = some (.int .i64 d)) (go_keep) (first
      | (go_at_call 10; refine (PV.out _).mono ?_; rintro e w2 ⟨rfl, hbel⟩; have HL2 : Hid (Below w1.heap.size w1 w2) := (Below.drew (Below.refl _ _)).trans hbel; have hx2 := HX1.out.below HL2.out hw1; have p0 := hx2 0 _ rfl; have p1 := hx2 1 _ rfl; have p2 := hx2 2 _ rfl; have p3 := hx2 3 _ rfl; have p4 := hx2 4 _ rfl; have p5 := hx2 5 _ rfl; have p6 := hx2 6 _ rfl; have p7 := hx2 7 _ rfl; clear hbel hx2)
      | (go_at_call 11; refine (RV.out _).mono ?_; rintro e w3 ⟨rfl, hbel⟩; have HL3 : Hid (Below w1.heap.size w1 w3) := HL2.out.trans (hbel.mono HL2.out.size); have hx3 := HX1.out.below HL3.out hw1; have q0 := hx3 0 _ rfl; have q1 := hx3 1 _ rfl; have q2 := hx3 2 _ rfl; have q3 := hx3 3 _ rfl; have q4 := hx3 4 _ rfl; have q5 := hx3 5 _ rfl; have q6 := hx3 6 _ rfl; have q7 := hx3 7 _ rfl; clear hbel hx3))
    all_goals
      go_wp2_with fail
      (try go_simp)
      go_meet
      exact ⟨by cases vb <;> rfl, HL3.out⟩
  case rest =>
    obtain ⟨rfl, hL⟩ := hcut
    have HL := Lib.hid hL
    have HB2 := Lib.hid (HB1.out.trans (hL.mono HB1.out.size))
    have HX2 := Lib.hid (HX1.out.below hL hw1)
    have HO2 := Lib.hid (HO1.out.keep hL)
    have hw2 : w.heap.size < wc.heap.size := Nat.lt_of_lt_of_le hw1 hL.size
    clear hL l0 l1 l2 l3 l4 l5 l6 l7
    have l0 := HX2.out 0 _ rfl
    have l1 := HX2.out 1 _ rfl
    have l2 := HX2.out 2 _ rfl
    have l3 := HX2.out 3 _ rfl
    have l4 := HX2.out 4 _ rfl
    have l5 := HX2.out 5 _ rfl
    have l6 := HX2.out 6 _ rfl
    have l7 := HX2.out 7 _ rfl
    go_wp2_with fail
    refine (RV.out _).mono ?_
    rintro e w3 ⟨rfl, hbel⟩
    have HB3 := Lib.hid (HB2.out.trans (hbel.mono HB2.out.size))
    have HX3 := Lib.hid (HX2.out.below hbel hw2)
    have HO3 := Lib.hid (HO2.out.keep hbel)
    have hw3 : w.heap.size < w3.heap.size := Nat.lt_of_lt_of_le hw2 hbel.size
    clear hbel l0 l1 l2 l3 l4 l5 l6 l7
    rcases HC.out with ⟨rfl, rfl, rfl⟩ | ⟨rfl, hsc, rfl, rfl⟩ | ⟨rfl, hs0, hs1, rfl, hx, hdx⟩
    · clear HC
      go_wp2_with fail
      refine (AW.out _).mono ?_
      rintro e w4 ⟨rfl, hbel⟩
      have HB4 := Lib.hid (HB3.out.trans (hbel.mono HB3.out.size))
      clear hbel
      go_wp2
      go_ret
      exact ⟨rfl, HB4.out⟩
    · clear HC
      rcases Int.lt_or_le sc 0 with q | q
      · go_wp2_with fail
        refine (AW.out _).mono ?_
        rintro e w4 ⟨rfl, hbel⟩
        have HB4 := Lib.hid (HB3.out.trans (hbel.mono HB3.out.size))
        clear hbel
        go_wp2
        go_ret
        exact ⟨rfl, HB4.out⟩
      have q2 : 1048576 ≤ sc := by omega
      go_wp2_with fail
      refine (AW.out _).mono ?_
      rintro e w4 ⟨rfl, hbel⟩
      have HB4 := Lib.hid (HB3.out.trans (hbel.mono HB3.out.size))
      clear hbel
      go_wp2
      go_ret
      exact ⟨rfl, HB4.out⟩
    · clear HC
      have hxl : x.length = 64 := by rw [← hx]; exact pencF_len _ _
      rw [hxl] at HO3 ⊢
      obtain ⟨_, _, hvv, hc1, hc2⟩ := HO3.out.form
      injection hvv with hv1 hv2 hv3
      subst hv3
      have HXL := Lib.hid hxl
      have HDX := Lib.hid hdx
      have RE : Hid (∀ u : World, Calls Tryd.prog 15 #[.agg #[.int .i64 k, .int .i64 m, .int .i64 i, .int .i64 t, .int .i64 a, .int .i64 b, .int .i64 c, .int .i64 d], .int .i64 sc] u (PutRes u.heap.size x u)) := fun u => by
        have e : ((sc.toNat : Nat) : Int) = sc := by omega
        have h := refPencode_any k m i t a b c d sc.toNat u HV.out (by omega) x (by rw [e]; exact hx)
        rwa [e] at h
      clear hx hdx hxl hv1 hv2
      go_wp2_with fail
      refine (pdecode_any sc x A1 64 c1 w3.heap.size w3 (HT.out _ HB3.out).1 (HT.out _ HB3.out).2 HO3.out.byt hc1 hc2 (Nat.le_refl _) _ HDX.out).mono ?_
      rintro e w4 ⟨rfl, hbel⟩
      simp only [Option.getD_some, Option.isSome_some, pagg]
      have HB4 := Lib.hid (HB3.out.trans (hbel.mono HB3.out.size))
      have HX4 := Lib.hid (HX3.out.below hbel hw3)
      have HO4 := Lib.hid (HO3.out.keep hbel)
      have hw4 : w.heap.size < w4.heap.size := Nat.lt_of_lt_of_le hw3 hbel.size
      clear hbel
      have HL5 := Lib.hid ((Below.refl w4.heap.size w4).alloc (Nat.le_refl _) (.cells #[.int .i64 k, .int .i64 m, .int .i64 i, .int .i64 t, .int .i64 a, .int .i64 b, .int .i64 c, .int .i64 d] 25))
      have HB5 := Lib.hid (HB4.out.trans (HL5.out.mono HB4.out.size))
      have HX5 := Lib.hid (HX4.out.below HL5.out hw4)
      have HO5 := Lib.hid (HO4.out.keep HL5.out)
      have HZ5 := Lib.hid (Cells.new w4 25 #[.int .i64 k, .int .i64 m, .int .i64 i, .int .i64 t, .int .i64 a, .int .i64 b, .int .i64 c, .int .i64 d])
      go_wp2_with (first
        | (go_at_call 12; refine (AW.out _).mono ?_; rintro e w6 ⟨rfl, hbel⟩; have HB6 := Lib.hid (HB5.out.trans (hbel.mono HB5.out.size)); have HX6 := Lib.hid (HX5.out.below hbel (by simp; omega)); have HZ6 := Lib.hid (HZ5.out.below hbel (by simp)); have HO6 := Lib.hid (HO5.out.keep hbel); have hw6 : w4.heap.size < w6.heap.size := (by have := hbel.size; simp at this; omega); have p0 := HX6.out 0 _ rfl; have p1 := HX6.out 1 _ rfl; have p2 := HX6.out 2 _ rfl; have p3 := HX6.out 3 _ rfl; have p4 := HX6.out 4 _ rfl; have p5 := HX6.out 5 _ rfl; have p6 := HX6.out 6 _ rfl; have p7 := HX6.out 7 _ rfl; clear hbel)
        | (go_at_call 15; refine (RE.out _).mono ?_; rintro e w7 ⟨A7, c7, rfl, hown, hbel⟩; rw [HXL.out] at hown ⊢; have HO7 := Lib.hid hown; have HO6b := Lib.hid (HO6.out.keep hbel); have HB7 := Lib.hid (HB6.out.trans (hbel.mono HB6.out.size)); have HX7 := Lib.hid (HX6.out.below hbel (by omega)); have HZ7 := Lib.hid (HZ6.out.below hbel hw6); clear hown hbel)
        | (go_at_call 14; refine (eq_any x x A1 A7 64 64 c1 c7 _ _ _ HO6b.out.byt HO7.out.byt (by decide) (by decide)).mono ?_; rintro e w' ⟨rfl, q, rfl⟩; rw [decide_eq_true rfl]; have HB8 : Hid (Below w.heap.size w (w7.drewN q)) := ofDrews HB7.out q; have hx8 : Cells (w7.drewN q) w.heap.size #[.int .i64 k, .int .i64 m, .int .i64 i, .int .i64 t, .int .i64 a, .int .i64 b, .int .i64 c, .int .i64 d].toList := HX7.out; have hz8 : Cells (w7.drewN q) w4.heap.size #[.int .i64 k, .int .i64 m, .int .i64 i, .int .i64 t, .int .i64 a, .int .i64 b, .int .i64 c, .int .i64 d].toList := HZ7.out; have r0 := hx8 0 _ rfl; have r1 := hx8 1 _ rfl; have r2 := hx8 2 _ rfl; have r3 := hx8 3 _ rfl; have r4 := hx8 4 _ rfl; have r5 := hx8 5 _ rfl; have r6 := hx8 6 _ rfl; have r7 := hx8 7 _ rfl; have s0 := hz8 0 _ rfl; have s1 := hz8 1 _ rfl; have s2 := hz8 2 _ rfl; have s3 := hz8 3 _ rfl; have s4 := hz8 4 _ rfl; have s5 := hz8 5 _ rfl; have s6 := hz8 6 _ rfl; have s7 := hz8 7 _ rfl; clear hx8 hz8))
      go_ret
      exact ⟨rfl, HB8.out⟩
end Go.Proofs.YthjnbdbbeidhgaaDoor
