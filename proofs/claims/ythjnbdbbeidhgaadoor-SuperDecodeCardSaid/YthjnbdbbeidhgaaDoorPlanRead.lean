/- The walk of superblock.ReadLayout. -/
import Derived.Test.YthjnbdbbeidhgaaDoorPlanEnc
import Derived.Test.YthjnbdbbeidhgaaDoorReader2
import Derived.Test.YthjnbdbbeidhgaaDoorRS
import Derived.IntWalk
namespace Go.Proofs.YthjnbdbbeidhgaaDoor
open Go.RowKit

theorem grown_row {a b : World} {g k : Nat} {o : Obj} (h : a.grownBy b (some g)) (hk : k < a.heap.size) (hne : k ≠ g) (hr : a.heap[k]? = some o) : b.heap[k]? = some o :=
  (h.block k hk (fun e => hne (Option.some.inj e))).trans hr

theorem grown_below {a b c : World} {g : Nat} (h : a.grownBy b (some g)) (hb : Below a.heap.size b c) : a.grownBy c (some g) :=
  ⟨hb.os.trans h.os, hb.tape.trans h.tape, hb.output.trans h.output, Nat.le_trans h.size hb.size, fun i hi hne => (hb.block i hi).trans (h.block i hi hne)⟩

set_option maxHeartbeats 2000000 in
theorem readLay_any (g n1 n2 k n4 : Nat) (p : List UInt8) (w : World) (hr : Rdr w g p false) (h7 : 7 ≤ p.length) (h1 : num ((p.drop 0).take 4) = n1) (h2 : num ((p.drop 4).take 1) = n2) (h3 : num ((p.drop 5).take 1) = k) (h4 : num ((p.drop 6).take 1) = n4) :
    Calls Tryd.prog 39 #[.pointer (some ⟨g, 0, none⟩)] w fun e w' => e = .returned (.agg #[.int .i64 (n1 : Int), .int .i64 (n2 : Int), .int .i64 (lrs n1 k), .int .i64 (n4 : Int)]) ∧ Rdr w' g (p.drop 7) false ∧ w.grownBy w' (some g) := by
  have hgl := hr.lt
  have b1 : n1 < 281474976710656 := by rw [← h1]; exact take_lt (by decide)
  have b2 : n2 < 256 := by rw [← h2]; exact take_lt1
  have b3 : k < 256 := by rw [← h3]; exact take_lt1
  have b4 : n4 < 256 := by rw [← h4]; exact take_lt1
  have T1 : Hid (∀ u, Rdr u g p false → Calls Tryd.prog 38 #[.pointer (some ⟨g, 0, none⟩), .int .i64 4] u (NumRes u g n1 (p.drop 4) false)) := fun u hu => by
    have := num_ok g 4 p u hu (by omega) (by decide) (by decide)
    rw [List.drop_zero] at h1
    rwa [h1] at this
  have T2 : Hid (∀ u, Rdr u g (p.drop 4) false → Calls Tryd.prog 38 #[.pointer (some ⟨g, 0, none⟩), .int .i64 1] u (NumRes u g n2 (p.drop 5) false)) := fun u hu => by
    have := num_ok g 1 (p.drop 4) u hu (by rw [List.length_drop]; omega) (by decide) (by decide)
    rwa [h2, List.drop_drop] at this
  have T3 : Hid (∀ u, Rdr u g (p.drop 5) false → Calls Tryd.prog 38 #[.pointer (some ⟨g, 0, none⟩), .int .i64 1] u (NumRes u g k (p.drop 6) false)) := fun u hu => by
    have := num_ok g 1 (p.drop 5) u hu (by rw [List.length_drop]; omega) (by decide) (by decide)
    rwa [h3, List.drop_drop] at this
  have T4 : Hid (∀ u, Rdr u g (p.drop 6) false → Calls Tryd.prog 38 #[.pointer (some ⟨g, 0, none⟩), .int .i64 1] u (NumRes u g n4 (p.drop 7) false)) := fun u hu => by
    have := num_ok g 1 (p.drop 6) u hu (by rw [List.length_drop]; omega) (by decide) (by decide)
    rwa [h4, List.drop_drop] at this
  have HR0 : Hid (Rdr (w.alloc (.cells #[.int .i64 0, .int .i64 0, .int .i64 0, .int .i64 0] 23)) g p false) := hr.below (Below.alloc (Below.refl w.heap.size w) (Nat.le_refl _) _) hgl
  have HG0 : Hid (w.grownBy (w.alloc (.cells #[.int .i64 0, .int .i64 0, .int .i64 0, .int .i64 0] 23)) (some g)) := only_of_below (B := w.heap.size) (Below.alloc (Below.refl _ _) (Nat.le_refl _) _) (Nat.le_refl _)
  have HZ0 : Hid ((w.alloc (.cells #[.int .i64 0, .int .i64 0, .int .i64 0, .int .i64 0] 23)).heap[w.heap.size]? = some (.cells #[.int .i64 0, .int .i64 0, .int .i64 0, .int .i64 0] 23)) := heap_alloc_new w _
  clear hr h1 h2 h3 h4
  have q1 : IntKind.i64.wrap (n1 : Int) = (n1 : Int) := IntWalk.i64_in _ (by omega)
  have q2 : IntKind.i64.wrap (n2 : Int) = (n2 : Int) := IntWalk.i64_in _ (by omega)
  have q3 : IntKind.i64.wrap (k : Int) = (k : Int) := IntWalk.i64_in _ (by omega)
  have q4 : IntKind.i64.wrap (n4 : Int) = (n4 : Int) := IntWalk.i64_in _ (by omega)
  go_enter Tryd.func39, Tryd.ntmps39
  go_wp2_with fail
  refine (T1.out _ HR0.out).mono ?_
  rintro e w1 ⟨rfl, hr, hg, hs⟩
  have HR1 := Lib.hid hr
  have HG1 := Lib.hid (only_trans HG0.out hg)
  have HZ1 := Lib.hid (grown_row hg (by simp) (by omega) HZ0.out)
  have hs1 : w1.heap.size = w.heap.size + 1 := by simpa using hs
  clear hr hg hs
  go_wp2_with fail
  refine (T2.out _ HR1.out).mono ?_
  rintro e w2 ⟨rfl, hr, hg, hs⟩
  have HR2 := Lib.hid (hr.below (Below.alloc (Below.refl w2.heap.size w2) (Nat.le_refl _) (.cells #[.int .i64 (n1 : Int), .int .i64 (n2 : Int), .int .i64 0, .int .i64 0] 23)) hr.lt)
  have HG2 := Lib.hid (only_trans (only_trans HG1.out hg) (only_of_below (g := g) (B := w2.heap.size) (Below.alloc (Below.refl _ _) (Nat.le_refl _) (.cells #[.int .i64 (n1 : Int), .int .i64 (n2 : Int), .int .i64 0, .int .i64 0] 23)) (Nat.le_refl _)))
  have hs2 : w2.heap.size = w.heap.size + 1 := by omega
  have HZ2 := Lib.hid ((Below.heap_alloc w2 (.cells #[.int .i64 (n1 : Int), .int .i64 (n2 : Int), .int .i64 0, .int .i64 0] 23) w.heap.size (by omega)).trans (grown_row hg (by omega) (by omega) HZ1.out))
  have HL2 := Lib.hid (heap_alloc_new w2 (.cells #[.int .i64 (n1 : Int), .int .i64 (n2 : Int), .int .i64 0, .int .i64 0] 23))
  clear hr hg hs
  go_wp2_with fail
  refine (T3.out _ HR2.out).mono ?_
  rintro e w3 ⟨rfl, hr, hg, hs⟩
  have HR3 := Lib.hid hr
  have HG3 := Lib.hid (only_trans HG2.out hg)
  have hs3 : w3.heap.size = w.heap.size + 1 + 1 := by rw [hs]; simp; omega
  have HZ3 := Lib.hid (grown_row hg (by simp; omega) (by omega) HZ2.out)
  have HL3 := Lib.hid (grown_row hg (by simp) (by omega) HL2.out)
  clear hr hg hs
  go_wp2_with fail
  refine (T4.out _ HR3.out).mono ?_
  rintro e w4 ⟨rfl, hr, hg, hs⟩
  have HR4 := Lib.hid hr
  have HG4 := Lib.hid (only_trans HG3.out hg)
  have hs4 : w4.heap.size = w.heap.size + 1 + 1 := by omega
  have HZ4 := grown_row hg (by omega) (by omega) HZ3.out
  have HL4 := grown_row hg (by omega) (by omega) HL3.out
  clear hr hg hs
  have z0 := cell_of_row w4 w.heap.size 0 _ _ _ HZ4
  have z1 := cell_of_row w4 w.heap.size 1 _ _ _ HZ4
  have z2 := cell_of_row w4 w.heap.size 2 _ _ _ HZ4
  have z3 := cell_of_row w4 w.heap.size 3 _ _ _ HZ4
  have zf : ∀ j, w4.frozen? ⟨w.heap.size, j, none⟩ = false := fun j => frozen_of_row w4 w.heap.size j _ _ HZ4
  rw [hs2] at HL4
  have l0 := cell_of_row w4 (w.heap.size + 1) 0 _ _ _ HL4
  have l1 := cell_of_row w4 (w.heap.size + 1) 1 _ _ _ HL4
  have l2 := cell_of_row w4 (w.heap.size + 1) 2 _ _ _ HL4
  have l3 := cell_of_row w4 (w.heap.size + 1) 3 _ _ _ HL4
  have lf : ∀ j, w4.frozen? ⟨w.heap.size + 1, j, none⟩ = false := fun j => frozen_of_row w4 (w.heap.size + 1) j _ _ HL4
  change w4.cell? _ = some _ at z0 z1 z2 z3 l0 l1 l2 l3
  have hne : ¬ w2.heap.size = w.heap.size := by omega
  have hne' : ¬ w.heap.size = w2.heap.size := by omega
  clear HZ4 HL4 HR1 HR2 HR3 HG0 HG1 HG2 HG3 HZ0 HZ1 HZ2 HZ3 HL2 HL3 HR0
  by_cases hp : 0 < n1
  · have hp' : (0 : Int) < (n1 : Int) := by omega
    have hsh : wrap64 (2 ^ (min (k : Int) 30).toNat) = lrs n1 k := by
      have e : (min (k : Int) 30).toNat = min k 30 := by omega
      rw [e, lrs, if_pos hp]
      have hb : 2 ^ min k 30 ≤ 2 ^ 30 := Nat.pow_le_pow_right (by decide) (by omega)
      have hc : ((2 ^ min k 30 : Nat) : Int) = (2 : Int) ^ min k 30 := by simp
      rw [← hc]
      unfold wrap64
      simp only [Nat.reducePow] at hb
      generalize 2 ^ min k 30 = z at hb ⊢
      omega
    go_wp2
    refine bodyPost_ret (v := .agg #[.int .i64 (n1 : Int), .int .i64 (n2 : Int), .int .i64 (lrs n1 k), .int .i64 (n4 : Int)]) (by simp [results, Tryd.results39, go_sem, *]) rfl ?_
    have HBW := Below.refl w.heap.size w4
    have HF : ∀ v, Below w.heap.size w4 v → Rdr v g (p.drop 7) false ∧ w.grownBy v (some g) := fun v hv => ⟨HR4.out.below hv hgl, grown_below HG4.out hv⟩
    exact ⟨rfl, HF _ (by repeat (first | with_reducible exact HBW | with_reducible refine Below.setCell ?_ (by first | (simp; done) | (simp; omega) | omega) _))⟩
  · have hp' : ¬ (0 : Int) < (n1 : Int) := by omega
    have hl0 : lrs n1 k = 0 := if_neg hp
    go_wp2
    refine bodyPost_ret (v := .agg #[.int .i64 (n1 : Int), .int .i64 (n2 : Int), .int .i64 (lrs n1 k), .int .i64 (n4 : Int)]) (by simp [results, Tryd.results39, go_sem, *]) rfl ?_
    have HBW := Below.refl w.heap.size w4
    have HF : ∀ v, Below w.heap.size w4 v → Rdr v g (p.drop 7) false ∧ w.grownBy v (some g) := fun v hv => ⟨HR4.out.below hv hgl, grown_below HG4.out hv⟩
    exact ⟨rfl, HF _ (by repeat (first | with_reducible exact HBW | with_reducible refine Below.setCell ?_ (by first | (simp; done) | (simp; omega) | omega) _))⟩
end Go.Proofs.YthjnbdbbeidhgaaDoor
