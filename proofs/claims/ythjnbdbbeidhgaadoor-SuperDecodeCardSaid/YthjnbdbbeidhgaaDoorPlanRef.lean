/- The walk of the reference's Read of a layout. -/
import Derived.Test.YthjnbdbbeidhgaaDoorPlanEnc
import Derived.Test.YthjnbdbbeidhgaaDoorRS
import Derived.Deep.DeepCutAuto
import Derived.Deep.RegionHeld3
import Derived.Laws.StructEq
namespace Go.Proofs.YthjnbdbbeidhgaaDoor
open Go.RowKit

theorem num_at {p : List UInt8} {k : Nat} {b : UInt8} (h : p[k]? = some b) : num ((p.drop k).take 1) = b.toNat := by
  have h1 : (p.drop k)[0]? = some b := by rw [List.getElem?_drop]; exact h
  cases hd : p.drop k with
  | nil => rw [hd] at h1; cases h1
  | cons x l => rw [hd] at h1; injection h1 with h1; subst h1; simp [num]
set_option maxHeartbeats 400000 in
theorem lay0_ne (n1 n2 n4 : Nat) (h : ¬ (n1 = 0 ∧ n2 = 0 ∧ n4 = 0)) (w : World) : (Op.equalIn 10000 23 (.agg #[.int .i64 (n1 : Int), .int .i64 (n2 : Int), .int .i64 0, .int .i64 (n4 : Int)]) (.agg #[.int .i64 0, .int .i64 0, .int .i64 0, .int .i64 0])).run Tryd.prog w = .ok false w := by
  by_cases e0 : n1 = 0
  · by_cases e1 : n2 = 0
    · have e2 : ¬ n4 = 0 := fun e => h ⟨e0, e1, e⟩
      have e2' : ((n4 : Int) == 0) = false := by simp [e2]
      subst e0 e1; go_simp
    · have e1' : ((n2 : Int) == 0) = false := by simp [e1]
      subst e0; go_simp
  · have e0' : ((n1 : Int) == 0) = false := by simp [e0]
    go_simp

set_option maxRecDepth 100000 in
set_option maxHeartbeats 4000000 in
theorem refRead_any (p : List UInt8) (ad : Addr) (cap B n1 n2 kk n4 : Nat) (w : World) (hb : Byt w B (some ad) 7 p) (hcap : 7 ≤ cap) (hB : B ≤ w.heap.size) (h1 : num ((p.drop 0).take 4) = n1) (h2 : num ((p.drop 4).take 1) = n2) (h3 : num ((p.drop 5).take 1) = kk) (h4 : num ((p.drop 6).take 1) = n4) :
    Calls Tryd.prog 45 #[.slice (some ad) 7 cap] w fun e w' => e = .returned (.agg #[.int .i64 (n1 : Int), .int .i64 (n2 : Int), .int .i64 (lrsR n1 n2 n4 kk), .int .i64 (n4 : Int)]) ∧ Below w.heap.size w w' := by
  obtain ⟨ad4, b4, e4, hadB, hb4, q4⟩ := hb.get (show 4 < 7 by decide)
  injection e4 with e4
  subst e4
  obtain ⟨ad5, b5, e5, _, hb5, q5⟩ := hb.get (show 5 < 7 by decide)
  injection e5 with e5
  subst e5
  obtain ⟨ad6, b6, e6, _, hb6, q6⟩ := hb.get (show 6 < 7 by decide)
  injection e6 with e6
  subst e6
  rw [num_at hb4] at h2
  rw [num_at hb5] at h3
  rw [num_at hb6] at h4
  subst h2 h3 h4
  have ea4 : ad.add 4 = ⟨ad.block, ad.off + 4, none⟩ := by unfold Addr.add; simp
  rw [ea4] at q4
  have ea5 : ad.add 5 = ⟨ad.block, ad.off + 5, none⟩ := by unfold Addr.add; simp
  rw [ea5] at q5
  have ea6 : ad.add 6 = ⟨ad.block, ad.off + 6, none⟩ := by unfold Addr.add; simp
  rw [ea6] at q6
  have hadw : ad.block < w.heap.size := Nat.lt_of_lt_of_le hadB hB
  have HQ4 : Hid (∀ w', Below w.heap.size w w' → w'.cell? ⟨ad.block, ad.off + 4, none⟩ = some (.int .u8 (b4.toNat : Int))) := fun w' hw => (hw.cell (by exact hadw)).trans q4
  have HQ5 : Hid (∀ w', Below w.heap.size w w' → w'.cell? ⟨ad.block, ad.off + 5, none⟩ = some (.int .u8 (b5.toNat : Int))) := fun w' hw => (hw.cell (by exact hadw)).trans q5
  have HQ6 : Hid (∀ w', Below w.heap.size w w' → w'.cell? ⟨ad.block, ad.off + 6, none⟩ = some (.int .u8 (b6.toNat : Int))) := fun w' hw => (hw.cell (by exact hadw)).trans q6
  have hlt : n1 < 281474976710656 := by rw [← h1]; exact take_lt (by decide)
  have HN : Hid (∀ w' c, Below w.heap.size w w' → Calls Tryd.prog 44 #[.slice (some ad) 4 c] w' fun e w'' => e = .returned (.int .u64 (n1 : Int)) ∧ w' = w'') := fun w' c hw => by
    have hy := ((hb.more hB).below hw).take (k := 4) (by decide)
    have h := refNum_any _ _ 4 c w.heap.size w' hy (by decide)
    rw [List.drop_zero] at h1
    rwa [h1] at h
  have hx4 := b4.toNat_lt
  have hx5 := b5.toNat_lt
  have hx6 := b6.toNat_lt
  have w1 : IntKind.i64.wrap (n1 : Int) = (n1 : Int) := IntWalk.i64_in _ (by omega)
  have w4 : IntKind.i64.wrap (b4.toNat : Int) = (b4.toNat : Int) := IntWalk.i64_in _ (by omega)
  have w6 : IntKind.i64.wrap (b6.toNat : Int) = (b6.toNat : Int) := IntWalk.i64_in _ (by omega)
  have HB0 : Hid (Below w.heap.size w (w.alloc (.cells #[.int .i64 0, .int .i64 0, .int .i64 0, .int .i64 0] 23))) := (Below.refl _ _).alloc (Nat.le_refl _) _
  have hc4 : (4 : Int) ≤ (cap : Int) := by omega
  clear hb hB h1 hb4 hb5 hb6 q4 q5 q6 ea4 ea5 ea6 hadB
  go_enter Tryd.func45, Tryd.ntmps45
  go_upto_region 1 with fail
  have k4 := HQ4.out _ HB0.out
  have k6 := HQ6.out _ HB0.out
  go_cut [3] (fun a wx => a = .pointer (some ⟨w.heap.size + 1, 0, none⟩) ∧ wx = ((w.alloc (.cells #[.int .i64 0, .int .i64 0, .int .i64 0, .int .i64 0] 23)).alloc (.cells #[.int .i64 (n1 : Int), .int .i64 (b4.toNat : Int), .int .i64 0, .int .i64 (b6.toNat : Int)] 23)).drew)
  case first =>
    go_region_held3 (fun w' => w'.cell? ⟨ad.block, ad.off + 4, none⟩ = some (.int .u8 (b4.toNat : Int)) ∧ w'.cell? ⟨ad.block, ad.off + 6, none⟩ = some (.int .u8 (b6.toNat : Int))) (go_keep) (first
      | (go_at_call 44; refine (HN.out _ _ ?_).mono ?_; (repeat (first | with_reducible exact HB0.out | with_reducible refine Below.drew ?_ | with_reducible refine Below.alloc ?_ (by simp) _)); rintro e w' ⟨rfl, rfl⟩))
    all_goals
      go_wp2_with fail
      (try go_simp)
      go_meet
      exact ⟨rfl, rfl⟩
  case rest =>
    obtain ⟨rfl, rfl⟩ := hcut
    have HB1 : Hid (Below w.heap.size w ((w.alloc (.cells #[.int .i64 0, .int .i64 0, .int .i64 0, .int .i64 0] 23)).alloc (.cells #[.int .i64 (n1 : Int), .int .i64 (b4.toNat : Int), .int .i64 0, .int .i64 (b6.toNat : Int)] 23)).drew) := Below.drew (HB0.out.alloc HB0.out.size _)
    have k5 : ∀ X Y : Obj, ((w.alloc X).alloc Y).cell? ⟨ad.block, ad.off + 5, none⟩ = some (.int .u8 (b5.toNat : Int)) := fun X Y => HQ5.out _ (Below.alloc (Below.alloc (Below.refl _ _) (Nat.le_refl _) _) (by simp) _)
    clear k4 k6
    by_cases hz : (n1 = 0 ∧ b4.toNat = 0 ∧ b6.toNat = 0) ∧ b5.toNat = 0
    · have hl : lrsR n1 b4.toNat b6.toNat b5.toNat = 0 := if_pos hz
      obtain ⟨⟨e1, e2, e3⟩, e5⟩ := hz
      have e1' : (n1 : Int) = 0 := by omega
      have e2' : (b4.toNat : Int) = 0 := by omega
      have e3' : (b6.toNat : Int) = 0 := by omega
      have e5' : (b5.toNat : Int) = 0 := by omega
      clear e1 e2 e3 e5
      go_wp2
      refine bodyPost_ret (v := .agg #[.int .i64 (n1 : Int), .int .i64 (b4.toNat : Int), .int .i64 (lrsR n1 b4.toNat b6.toNat b5.toNat), .int .i64 (b6.toNat : Int)]) (by simp [results, Tryd.results45, go_sem, *]) rfl ?_
      exact ⟨rfl, (by repeat (first | with_reducible exact HB1.out | with_reducible exact Below.refl _ _ | with_reducible refine Below.drew ?_ | with_reducible refine Below.alloc ?_ (by first | (simp; done) | (simp; omega) | omega) _ | with_reducible refine Below.setCell ?_ (by first | (simp; done) | (simp; omega) | omega) _))⟩
    · have hsh : wrap64 (2 ^ (min (b5.toNat : Int) 12).toNat) = lrsR n1 b4.toNat b6.toNat b5.toNat := by
        have e : (min (b5.toNat : Int) 12).toNat = min b5.toNat 12 := by omega
        rw [e, lrsR, if_neg hz]
        have hbb : 2 ^ min b5.toNat 12 ≤ 2 ^ 12 := Nat.pow_le_pow_right (by decide) (by omega)
        have hc : ((2 ^ min b5.toNat 12 : Nat) : Int) = (2 : Int) ^ min b5.toNat 12 := by simp
        rw [← hc]
        unfold wrap64
        simp only [Nat.reducePow] at hbb
        generalize 2 ^ min b5.toNat 12 = z at hbb ⊢
        omega
      by_cases hl0 : n1 = 0 ∧ b4.toNat = 0 ∧ b6.toNat = 0
      · have e5 : ¬ b5.toNat = 0 := fun e => hz ⟨hl0, e⟩
        have e5' : (0 : Int) < (b5.toNat : Int) := by omega
        obtain ⟨e1, e2, e3⟩ := hl0
        have e1' : (n1 : Int) = 0 := by omega
        have e2' : (b4.toNat : Int) = 0 := by omega
        have e3' : (b6.toNat : Int) = 0 := by omega
        clear e1 e2 e3 e5
        go_wp2
        refine bodyPost_ret (v := .agg #[.int .i64 (n1 : Int), .int .i64 (b4.toNat : Int), .int .i64 (lrsR n1 b4.toNat b6.toNat b5.toNat), .int .i64 (b6.toNat : Int)]) (by simp [results, Tryd.results45, go_sem, *]) rfl ?_
        exact ⟨rfl, (by repeat (first | with_reducible exact HB1.out | with_reducible exact Below.refl _ _ | with_reducible refine Below.drew ?_ | with_reducible refine Below.alloc ?_ (by first | (simp; done) | (simp; omega) | omega) _ | with_reducible refine Below.setCell ?_ (by first | (simp; done) | (simp; omega) | omega) _))⟩
      · have hne := lay0_ne n1 b4.toNat b6.toNat hl0
        go_wp2
        refine bodyPost_ret (v := .agg #[.int .i64 (n1 : Int), .int .i64 (b4.toNat : Int), .int .i64 (lrsR n1 b4.toNat b6.toNat b5.toNat), .int .i64 (b6.toNat : Int)]) (by simp [results, Tryd.results45, go_sem, *]) rfl ?_
        exact ⟨rfl, (by repeat (first | with_reducible exact HB1.out | with_reducible exact Below.refl _ _ | with_reducible refine Below.drew ?_ | with_reducible refine Below.alloc ?_ (by first | (simp; done) | (simp; omega) | omega) _ | with_reducible refine Below.setCell ?_ (by first | (simp; done) | (simp; omega) | omega) _))⟩
end Go.Proofs.YthjnbdbbeidhgaaDoor
