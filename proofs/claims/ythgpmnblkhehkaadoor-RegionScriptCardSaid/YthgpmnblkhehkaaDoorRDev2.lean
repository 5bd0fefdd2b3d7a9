/- The reference's device: Fuse, Dirty, Write. -/
import Derived.Test.YthgpmnblkhehkaaDoorRDev
namespace Go.Proofs.YthgpmnblkhehkaaDoor
open Go.RowKit
section
variable {w w' : World} {d g1 g2 g3 S c1 c2 c3 : Nat} {s : DS} {lf : Int}
/-- Bytes written into the new contents. -/
theorem Rv.setImg {o : Nat} {x : UInt8} (h : Rv w d g1 g2 g3 S c1 c2 c3 s lf) (ho : o < S * 64) :
    Rv (w.setCell ⟨g2, o, none⟩ (.int .u8 (x.toNat : Int))) d g1 g2 g3 S c1 c2 c3 { s with img := s.img.take o ++ [x] ++ s.img.drop (o + 1) } lf ∧ Keep w (w.setCell ⟨g2, o, none⟩ (.int .u8 (x.toNat : Int))) (rvL d g1 g2 g3) := by
  obtain ⟨n1, n2, n3, n4, n5, n6⟩ := h.ne
  obtain ⟨ob, hob⟩ := h.old
  have hb : ∀ k, k ≠ g2 → (w.setCell ⟨g2, o, none⟩ (.int .u8 (x.toNat : Int))).heap[k]? = w.heap[k]? := fun k hk => Below.heap_setCell _ _ _ _ hk
  have himg := h.ok.len
  have hl : (s.img.take o ++ [x] ++ s.img.drop (o + 1)).length = S * 64 := by simp only [List.length_append, List.length_take, List.length_drop, List.length_singleton]; omega
  have hold : ∀ j b, s.img[j]? = some b → w.cell? ⟨g2, j, none⟩ = some (.int .u8 (b.toNat : Int)) := fun j b hj => by
    have := byt_range h.new j _ (bytes_get hj)
    simpa using this
  refine ⟨⟨h.cells.same (hb d n2), h.sd.set _ _, h.s1.set _ _, h.s2.set _ _, h.s3.set _ _, ⟨ob, byt_block hob (hb g1 n4)⟩, ⟨hl, fun hn => ⟨_, rfl, Nat.lt_succ_self _, fun j b hj => ?_⟩⟩, fun j hj => (World.cell?_of_block (a := ⟨g3, j, none⟩) (hb g3 (Ne.symm n6))).trans (h.dirt j hj), h.left, h.i64, h.ne, ⟨hl, h.ok.nd, h.ok.lt, h.ok.fu⟩, h.sz⟩,
    ⟨rfl, rfl, rfl, by simp [World.setCell], fun k _ hk => hb k (fun e => hk (.inr (.inr (.inl e))))⟩⟩
  rw [Addr.add_mid, Nat.zero_add]
  by_cases hjo : j = o
  · subst hjo
    rw [List.append_assoc, List.getElem?_append_right (by rw [List.length_take]; omega), List.length_take, Nat.min_eq_left (by omega), Nat.sub_self] at hj
    simp at hj
    subst hj
    exact World.cell?_setCell_same _ _ _ (hold j _ (List.getElem?_eq_getElem (by omega)))
  · refine (World.cell?_setCell_other _ _ _ _ (fun e => by injection e; omega)).trans (hold j b ?_)
    rw [← hj]
    by_cases h1 : j < o
    · rw [List.append_assoc, List.getElem?_append_left (by rw [List.length_take]; omega), List.getElem?_take, if_pos h1]
    · rw [List.getElem?_append_right (by simp only [List.length_append, List.length_take, List.length_singleton]; omega), List.getElem?_drop]
      congr 1
      simp only [List.length_append, List.length_take, List.length_singleton]
      omega
/-- A dirty flag is written. -/
theorem Rv.setFlag {i : Nat} {b : Bool} {ds' : List Nat} (h : Rv w d g1 g2 g3 S c1 c2 c3 s lf) (hi : i < S) (hd : ∀ j, j < S → decide (j ∈ ds') = if j = i then b else decide (j ∈ s.ds)) (hn : ds'.Nodup) (hl : ∀ j ∈ ds', j < S) :
    Rv (w.setCell ⟨g3, i, none⟩ (.bool b)) d g1 g2 g3 S c1 c2 c3 { s with ds := ds' } lf ∧ Keep w (w.setCell ⟨g3, i, none⟩ (.bool b)) (rvL d g1 g2 g3) := by
  obtain ⟨n1, n2, n3, n4, n5, n6⟩ := h.ne
  obtain ⟨ob, hob⟩ := h.old
  have hb : ∀ k, k ≠ g3 → (w.setCell ⟨g3, i, none⟩ (.bool b)).heap[k]? = w.heap[k]? := fun k hk => Below.heap_setCell _ _ _ _ hk
  refine ⟨⟨h.cells.same (hb d n3), h.sd.set _ _, h.s1.set _ _, h.s2.set _ _, h.s3.set _ _, ⟨ob, byt_block hob (hb g1 n5)⟩, byt_block h.new (hb g2 n6), fun j hj => ?_, h.left, h.i64, h.ne, ⟨h.ok.len, hn, hl, h.ok.fu⟩, h.sz⟩,
    ⟨rfl, rfl, rfl, by simp [World.setCell], fun k _ hk => hb k (fun e => hk (.inr (.inr (.inr e))))⟩⟩
  show _ = some (Value.bool (decide (j ∈ ds')))
  rw [hd j hj]
  by_cases e : j = i
  · subst e
    rw [if_pos rfl]
    exact World.cell?_setCell_same _ _ _ (h.dirt j hj)
  · rw [if_neg e]
    exact (World.cell?_setCell_other _ _ _ _ (fun e' => by injection e'; omega)).trans (h.dirt j hj)

theorem rfuse_any (n : Nat) (hn : n ≤ 1000000) (h : Rv w d g1 g2 g3 S c1 c2 c3 s lf) : Calls Tryd.prog 22 #[.pointer (some ⟨d, 0, none⟩), .int .i64 (n : Int)] w fun e w' => e = .returned (.tuple #[]) ∧ Rv w' d g1 g2 g3 S c1 c2 c3 { s with fu := (n : Int) } (n : Int) ∧ Keep w w' (rvL d g1 g2 g3) := by
  have l3 := h.cells 3 _ rfl
  have l4 := h.cells 4 _ rfl
  have z3 := h.sd 3
  have z4 := h.sd 4
  have HH := Lib.hid h
  have HM : Hid ((if (0 : Int) > (n : Int) then (0 : Int) else (n : Int)) = (n : Int)) := by show _ = _; rw [if_neg (by omega)]
  have h0 : (0 : Int) ≤ (n : Int) := by omega
  have HD := Lib.hid (decide_eq_true h0)
  clear h
  go_enter Tryd.func22, Tryd.ntmps22
  go_wp2_with (refine wpList_max rfl _ _ rfl (p := (n : Int)) (q := 0) (m := (n : Int)) ?_ ?_ ?_ ?_; rfl; rfl; exact HM.out)
  go_end0
  have hc := (HH.out.cells.set 3 (.bool true)).set 4 (.int .i64 (n : Int))
  obtain ⟨n1, n2, n3, n4, n5, n6⟩ := HH.out.ne
  obtain ⟨ob, ho⟩ := HH.out.old
  have hb : ∀ k, k ≠ d → ((w.setCell ⟨d, 3, none⟩ (.bool true)).setCell ⟨d, 4, none⟩ (.int .i64 (n : Int))).heap[k]? = w.heap[k]? := fun k hk => (Below.heap_setCell _ _ _ _ hk).trans (Below.heap_setCell _ _ _ _ hk)
  refine ⟨rfl, ⟨?_, (HH.out.sd.set _ _).set _ _, (HH.out.s1.set _ _).set _ _, (HH.out.s2.set _ _).set _ _, (HH.out.s3.set _ _).set _ _, ⟨ob, byt_block ho (hb _ (Ne.symm n1))⟩, byt_block HH.out.new (hb _ (Ne.symm n2)), fun j' hj => (World.cell?_of_block (a := ⟨g3, j', none⟩) (hb _ (Ne.symm n3))).trans (HH.out.dirt j' hj), fun _ => rfl, by omega, HH.out.ne, ⟨HH.out.ok.len, HH.out.ok.nd, HH.out.ok.lt, by show -1 ≤ (n : Int) ∧ (n : Int) ≤ _; omega⟩, HH.out.sz⟩,
    ⟨rfl, rfl, rfl, by simp [World.setCell], fun k _ hk => hb k (fun e => hk (.inl e))⟩⟩
  rw [HD.out]
  exact hc

set_option maxHeartbeats 1000000 in
theorem rdirty_any (h : Rv w d g1 g2 g3 S c1 c2 c3 s lf) : Calls Tryd.prog 48 #[.pointer (some ⟨d, 0, none⟩)] w fun e w' => e = .returned (.int .i64 (s.ds.length : Int)) ∧ w = w' := by
  have l2 := h.cells 2 _ rfl
  have HC := Lib.hid (flags_count h.ok.nd h.ok.lt)
  have HF : Hid (∀ j, j < S → w.cell? ⟨g3, j, none⟩ = some (.bool ((flags S s.ds).getD j false))) := fun j hj => by
    rw [h.dirt j hj, List.getD, flags_at hj]; rfl
  obtain ⟨fl, hfl⟩ : ∃ x, flags S s.ds = x := ⟨_, rfl⟩
  have hlen : fl.length = S := by rw [← hfl, flags_len]
  rw [hfl] at HC HF
  have hS := h.sz
  have b1 : (S : Int) ≤ 1048576 := by omega
  have HLn := Lib.hid hlen
  clear h hfl hlen hS
  go_enter Tryd.func48, Tryd.ntmps48
  go_wp2
  go_loop [3, 11] (fun nv iv => ∃ k : Nat, k ≤ S ∧ iv = .int .i64 (k : Int) ∧ nv = .int .i64 (((fl.take k).filter id).length : Int)) (fun _ iv => S - (intOf iv).toNat)
  case atStart => exact ⟨0, Nat.zero_le _, rfl, by simp⟩
  case round =>
    obtain ⟨k, hk, rfl, rfl⟩ := hrel
    obtain ⟨q, hq⟩ : ∃ q, ((fl.take k).filter id).length = q := ⟨_, rfl⟩
    have hqk : q ≤ k := by rw [← hq]; exact Nat.le_trans (List.length_filter_le _ _) (List.length_take_le _ _)
    have HQ := Lib.hid hq
    rw [hq]
    clear hq
    by_cases hlt : k < S
    · obtain ⟨b, hb⟩ : ∃ b, fl.getD k false = b := ⟨_, rfl⟩
      have hcell := HF.out k hlt
      rw [hb] at hcell
      have hsn : ((fl.take (k + 1)).filter id).length = q + b.toNat := by
        have hg : fl[k]? = some b := by
          have h1 := List.getElem?_eq_getElem (l := fl) (i := k) (by rw [HLn.out]; exact hlt)
          rw [h1, ← hb, List.getD, h1]; rfl
        rw [List.take_add_one, hg, List.filter_append, List.length_append, HQ.out]
        cases b <;> rfl
      have HS := Lib.hid hsn
      have k1 : (k : Int) < (S : Int) := by omega
      have k0 : (0 : Int) ≤ (k : Int) := by omega
      clear hsn hb
      cases b
      · go_wp2
        go_round
        case rel => exact ⟨k + 1, by omega, by go_num, by rw [HS.out]; rfl⟩
        case measure => simp [intOf]; omega
      · go_wp2
        go_round
        case rel => exact ⟨k + 1, by omega, by go_num, by rw [HS.out]; go_num⟩
        case measure => simp [intOf]; omega
    · have e : k = S := by omega
      have k1 : ¬ (k : Int) < (S : Int) := by omega
      have HE : Hid (q = s.ds.length) := by
        show _ = _
        rw [← HQ.out, e, List.take_of_length_le (by rw [HLn.out]; exact Nat.le_refl _), HC.out]
      clear hlt e
      go_wp2
      go_ret
      exact ⟨by rw [HE.out]; rfl, rfl⟩
end
end Go.Proofs.YthgpmnblkhehkaaDoor
