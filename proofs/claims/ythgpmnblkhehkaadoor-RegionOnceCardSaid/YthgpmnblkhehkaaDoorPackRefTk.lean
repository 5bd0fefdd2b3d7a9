/- The reference's packer: the walk of Take. -/
import Derived.Test.YthgpmnblkhehkaaDoorPackRefTake
import Derived.Deep.DeepCutAuto
import Derived.Deep.RegionHeld3
namespace Go.Proofs.YthgpmnblkhehkaaDoor
open Go.RowKit Go.Sort

set_option maxRecDepth 100000 in
set_option maxHeartbeats 8000000 in
theorem rtake_any (a b c d : Int) (sl : Nat) (s : Int) (t p : Nat) (A : Option Addr) (n cap : Nat) (bs : List UInt8) (hn : n ≤ 1000000) (hf : form a b c d = true) (hsl : (sl : Int) < d) (hs0 : 0 ≤ s) (hs : s ≤ 281474976710655) (htk : t * 59 ≤ n) (N : Nat) (hN1 : (t + N) * 59 ≤ n) (hN2 : n < (t + N + 1) * 59) (w : World) (hP : Pk w p a b c d (sl : Int) s A n cap (t : Int) bs) :
    Calls Tryd.prog 70 #[.pointer (some ⟨p, 0, none⟩)] w fun e w' => ∃ A2 c2 A3 c3 vs, e = .returned (.tuple #[.slice A2 N c2, .slice A3 N c3]) ∧ Rt w w' p a b c d (sl : Int) (74 + sl * c) s A n cap t ((t + N : Nat) : Int) bs N A2 c2 N A3 c3 vs := by
  have HP := Lib.hid hP
  have hlt := hP.cells.lt
  obtain ⟨A', cap', hAe, hncap, hcap⟩ := hP.own.form
  injection hAe with e1 e2 e3
  subst e1; subst e3
  clear e2
  obtain ⟨_, _, _, h1, h2, _, d1, d2⟩ := form_true hf
  have m1 : 0 ≤ (sl : Int) * c := Int.mul_nonneg (by omega) (by omega)
  have m2 : (sl : Int) * c ≤ 15 * 2048 := Int.mul_le_mul (by omega) h2 (by omega) (by omega)
  obtain ⟨q, hq⟩ : ∃ q, (sl : Int) * c = q := ⟨_, rfl⟩
  rw [hq] at m1 m2 ⊢
  have HQ := Lib.hid hq
  have m2' : q ≤ 30720 := by omega
  clear hq hP hf m2
  go_enter Tryd.func70, Tryd.ntmps70
  go_wp2
  go_loopw [4, 5] (fun x y wr => ∃ k A2 c2 A3 c3 vs, x = .slice A2 k c2 ∧ y = .slice A3 k c3 ∧ k ≤ N ∧ Rt w wr p a b c d (sl : Int) (74 + q) s A n cap t ((t + k : Nat) : Int) bs k A2 c2 k A3 c3 vs) (fun x _ _ => match x with | .slice _ k _ => N - k | _ => 0)
  case atStart =>
    exact ⟨0, none, 0, none, 0, [], rfl, rfl, Nat.zero_le _, ⟨by simpa using HP.out, Far.of_below (Below.refl _ _) _ _, Vec.nil _ _ _, Vec.nil _ _ _, FrsAt.nil _ _, fun g h => by simp [Value.ownBlock] at h⟩⟩
  case round =>
    obtain ⟨k, A2, c2, A3, c3, vs, rfl, rfl, hk, hg⟩ := hrel
    obtain ⟨T, hT⟩ : ∃ T, t + k = T := ⟨_, rfl⟩
    rw [hT] at hg
    have HG := Lib.hid hg
    have hTn : T * 59 ≤ n := by have := Nat.mul_le_mul_right 59 (show T ≤ t + N by omega); omega
    have hTb : T ≤ 20000 := by omega
    have t6 := fun d os => cell_regrown (hg.pk.cells 6 _ rfl) d os
    have t7 := fun d os => cell_regrown (hg.pk.cells 7 _ rfl) d os
    clear hg
    by_cases hlast : k = N
    · have hcmp : ¬ (((T : Int) + 1) * 59 ≤ (n : Int)) := by omega
      have hcmp2 : decide (((T : Int) + 1) * 59 ≤ (n : Int)) = false := decide_eq_false hcmp
      have HE : Hid (k = N ∧ t + k = T) := ⟨hlast, hT⟩
      clear hlast hT
      go_wp2
      refine wp_region_quiet_below (by kernel_rfl) (by kernel_rfl) ?_
      repeat (first | go_big_quiet_step (fail) | quiet_step (fail))
      refine wpQuiet_nil ?_
      intro w1 hw'
      have HG1 := Lib.hid (HG.out.later (below_of_regrown hw'))
      clear hw' t6 t7
      go_wp2
      go_ret2
      obtain ⟨he1, he2⟩ := HE.out
      subst he1
      rw [he2]
      exact ⟨A2, c2, A3, c3, vs, rfl, HG1.out⟩
    · have hcmp : ((T : Int) + 1) * 59 ≤ (n : Int) := by omega
      have HE : Hid (¬ k = N ∧ t + k = T) := ⟨hlast, hT⟩
      obtain ⟨lo, hlo⟩ : ∃ lo, T * 59 = lo := ⟨_, rfl⟩
      have hl1 : (T : Int) * 59 = (lo : Int) := by omega
      have hl2 : ((T : Int) + 1) * 59 = ((lo + 59 : Nat) : Int) := by omega
      have hlon : lo + 59 ≤ n := by omega
      obtain ⟨g0, hA⟩ := HP.out.own.head (by omega)
      subst hA
      have hk1 : k ≤ 100000 := by omega
      clear hlast hT
      have HAO : Hid (∀ g, (Value.slice (some (⟨g0, 0, none⟩ : Addr)) n cap).ownBlock = some g → g < w.heap.size) := fun g e => HP.out.own.lt e
      obtain ⟨fr, hfr⟩ : ∃ fr, frame 2 s.toNat (74 + q + 1 + (T : Int)).toNat (chunk bs T) = fr := ⟨_, rfl⟩
      have HFR := Lib.hid hfr
      have EN : Hid (∀ wx, Own wx (p + 1) 5 (.slice (some ⟨g0, 0, none⟩) n cap) n bs → Calls Tryd.prog 66 #[.int .i64 2, .int .i64 s, .int .i64 (74 + q + 1 + (T : Int)), .slice (some ⟨g0, lo, none⟩) 59 (cap - lo)] wx fun e w' => ∃ g5 c5, e = .returned (.slice (some ⟨g5, 0, none⟩) 64 c5) ∧ Byt w' w'.heap.size (some ⟨g5, 0, none⟩) 64 fr ∧ 64 ≤ c5 ∧ c5 ≤ 9223372036854775807 ∧ wx.heap.size ≤ g5 ∧ g5 < w'.heap.size ∧ Below wx.heap.size wx w') := fun wx hown => by
        have hchl : (chunk bs T).length = 59 := chunk_len (by rw [hown.len]; omega)
        have hby : Byt wx wx.heap.size (some ⟨g0, lo, none⟩) 59 (chunk bs T) := by
          have h := (hown.byt.cut (k := lo) (cap := cap) (by omega) hncap).take (k := 59) (by omega)
          rw [if_neg (by omega)] at h
          have e : (Option.map (fun x : Addr => x.add lo) (some (⟨g0, 0, none⟩ : Addr))) = some ⟨g0, lo, none⟩ := by
            simp only [Option.map_some, Addr.add]
            by_cases h0 : lo = 0
            · rw [if_pos h0, h0]
            · rw [if_neg h0, Nat.zero_add]
          rw [e] at h
          unfold chunk
          rw [hlo]
          exact h
        have h := refEncode_any 2 s.toNat (74 + q + 1 + (T : Int)).toNat (chunk bs T) (some ⟨g0, lo, none⟩) 59 (cap - lo) wx.heap.size wx hby (by decide) (Nat.le_refl _) (by omega) (by omega) fr hfr
        rw [Int.toNat_of_nonneg hs0, Int.toNat_of_nonneg (by omega)] at h
        refine h.mono ?_
        have hl64 : fr.length = 64 := by rw [← hfr]; exact frame_len (by rw [hchl]; exact Nat.le_refl _)
        rintro e w' ⟨A5, c5, rfl, hown5, hbel⟩
        rw [hl64] at hown5 ⊢
        obtain ⟨g5, rfl⟩ := hown5.head (by decide)
        obtain ⟨_, _, he, hc1, hc2⟩ := hown5.form
        injection he with _ _ he
        subst he
        exact ⟨g5, c5, rfl, hown5.byt, hc1, hc2, hown5.ge rfl, hown5.lt rfl, hbel⟩
      clear hfr
      have hw1 : IntKind.i64.wrap ((T : Int) + 1) = (T : Int) + 1 := IntWalk.i64_in _ (by omega)
      have hw3 : IntKind.i64.wrap ((lo : Int) + 59) = (lo : Int) + 59 := IntWalk.i64_in _ (by omega)
      have hw4 : IntKind.i64.wrap (lo : Int) = (lo : Int) := IntWalk.i64_in _ (by omega)
      have wq : IntKind.i64.wrap ((sl : Int) * c) = q := by rw [HQ.out]; exact IntWalk.i64_in _ (by omega)
      have wq1 : IntKind.i64.wrap (74 + q) = 74 + q := IntWalk.i64_in _ (by omega)
      have wq2 : IntKind.i64.wrap (74 + q + 1) = 74 + q + 1 := IntWalk.i64_in _ (by omega)
      have wq3 : IntKind.i64.wrap (74 + q + 1 + (T : Int)) = 74 + q + 1 + (T : Int) := IntWalk.i64_in _ (by omega)
      have hc1 : (lo : Int) + 59 ≤ (cap : Int) := by omega
      have hc2 : (0 : Int) ≤ (lo : Int) + 59 := by omega
      have hc3 : (lo : Int) ≤ max ((lo : Int) + 59) 0 := by omega
      have hc4 : ¬ cap = lo := by omega
      have hc5 : ((lo : Int) + 59).toNat = lo + 59 := by omega
      go_wp2
      refine wp_region_quiet_below (by kernel_rfl) (by kernel_rfl) ?_
      repeat (first | go_big_quiet_step (fail) | quiet_step (fail))
      refine wpQuiet_nil ?_
      intro w1 hw'
      have HG1 := Lib.hid (HG.out.later (below_of_regrown hw'))
      clear hw' t6 t7
      have t2 := fun d os => cell_regrown (HG1.out.pk.cells 2 _ rfl) d os
      have t4 := fun d os => cell_regrown (HG1.out.pk.cells 4 _ rfl) d os
      have t7 := fun d os => cell_regrown (HG1.out.pk.cells 7 _ rfl) d os
      go_wp2
      refine wp_region_quiet_below (by kernel_rfl) (by kernel_rfl) ?_
      repeat (first | go_big_quiet_step (fail) | quiet_step (fail))
      refine wpQuiet_nil ?_
      intro w2 hw'
      have HG2 := Lib.hid (HG1.out.later (below_of_regrown hw'))
      clear hw' t2 t4 t7
      have HG3 := Lib.hid (HG2.out.later (below_alloc w2 (.cells #[.int .i64 (74 + q + 1 + (T : Int))] 3)))
      have HBA : Hid (w.heap.size ≤ (w2.alloc (.cells #[.int .i64 (74 + q + 1 + (T : Int))] 3)).heap.size) := HG3.out.far.size
      go_upto_region 7 with (at_builtin; refine wpList_append_vec rfl Tryd.intw (.tmp 43) (.tmp 45) rfl rfl HG3.out.sec rfl (Vat.one w2 _ _) ?_ ?_ ?_ ?_; (intro u hu; rw [List.mem_singleton.1 hu]; rfl); omega; exact HBA.out; intro A6 c6 w6 hv6 hg6 ha6; have HG6 := Lib.hid (HG3.out.sector hlt HAO.out (by rw [HE.out.2]; exact hv6) hg6 ha6); clear hv6 hg6 ha6)
      have l5 := HG6.out.pk.cells 5 _ rfl
      have l6 := HG6.out.pk.cells 6 _ rfl
      have l7 := HG6.out.pk.cells 7 _ rfl
      go_region_held3 (fun w' => w'.cell? ⟨p, 5, none⟩ = some (.int .i64 s) ∧ w'.cell? ⟨p, 6, none⟩ = some (.slice (some ⟨g0, 0, none⟩) n cap) ∧ w'.cell? ⟨p, 7, none⟩ = some (.int .i64 (T : Int))) (go_keep) (first
        | (go_at_call 66; refine (EN.out _ (by first | exact HG6.out.pk.own | exact Own.drewN HG6.out.pk.own 1)).mono ?_; rintro e w7 ⟨g5, c5, rfl, hby, hcc1, hcc2, hg1, hg2, hbel⟩; have HG7 := Lib.hid (HG6.out.later (by first | exact hbel | exact (Below.drew (Below.refl _ _)).trans hbel)); have HY7 := Lib.hid hby; have HC7 := Lib.hid (And.intro hcc1 hcc2); have HS7 : Hid (w6.heap.size ≤ g5 ∧ g5 < w7.heap.size) := ⟨hg1, hg2⟩; have z5 := HG7.out.pk.cells 5 _ rfl; have z6 := HG7.out.pk.cells 6 _ rfl; have z7 := HG7.out.pk.cells 7 _ rfl; have HG8 := Lib.hid (HG7.out.later (below_alloc w7 (.cells #[.slice (some ⟨g5, 0, none⟩) 64 c5] 34))); clear hby hcc1 hcc2 hg1 hg2 hbel)
        | (refine step_append_vec rfl Tryd.bytw (.tmp 47) (.tmp 70) rfl rfl HG8.out.fra rfl (Vat.one w7 _ _) ?_ ?_ ?_ ?_; (intro u hu; rw [List.mem_singleton.1 hu]; rfl); omega; exact HG8.out.far.size; intro A7 c7 w8 hv8 hg8 ha8; have HG9 := Lib.hid (HG8.out.frame hlt HAO.out ((HY7.out.alloc (Nat.le_refl _) _).more (below_alloc w7 (.cells #[.slice (some ⟨g5, 0, none⟩) 64 c5] 34)).size) HC7.out.1 HC7.out.2 (Nat.le_trans HG6.out.far.size HS7.out.1) (by have := HS7.out.2; simp; omega) (fun e => by have := HG6.out.sec.lt e.symm; have := HS7.out.1; omega) (fun e => by have := HG6.out.fra.lt e.symm; have := HS7.out.1; omega) (by rw [HE.out.2]; exact HFR.out) hv8 hg8 ha8); have y5 := HG9.out.pk.cells 5 _ rfl; have y6 := HG9.out.pk.cells 6 _ rfl; have y7 := HG9.out.pk.cells 7 _ rfl; clear hv8 hg8 ha8))
      all_goals
        have l7' := HG9.out.pk.cells 7 _ rfl
        have f7' := HG9.out.pk.soft 7
        go_wp2_with fail
        go_roundw
        case rel =>
          refine ⟨k + 1, A6, c6, A7, c7, vs ++ [.slice (some ⟨g5, 0, none⟩) 64 c5], rfl, rfl, by have := HE.out.1; omega, ?_⟩
          have h := HG9.out.tick hlt ((T : Int) + 1)
          rw [show ((t + (k + 1) : Nat) : Int) = (T : Int) + 1 by have := HE.out.2; omega]
          exact h
        case measure => have := HE.out; simp only; omega
end Go.Proofs.YthgpmnblkhehkaaDoor
