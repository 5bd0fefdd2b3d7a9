/- slices.Grow of nil, slices.Concat, bytes.Equal. -/
import Derived.Test.YthgpmnblkhehkaaDoorWireWalks
import Derived.Lib.AppendZerosOnto
import Derived.Laws.IdiomStrings
import Derived.Laws.BytesArg
import Derived.Lib.Bytes
namespace Go.Proofs.YthgpmnblkhehkaaDoor
open Go.RowKit

set_option maxHeartbeats 400000 in
theorem grow_any (n : Nat) (w : World) (hn : n ≤ 1000000) :
    Calls Tryd.prog 79 #[.slice none 0 0, .int .i64 (n : Int)] w fun e w' => ∃ A c, e = .returned (.slice A 0 c) ∧ Own w' w.heap.size 5 (.slice A 0 c) 0 [] ∧ Below w.heap.size w w' := by
  rcases Nat.eq_zero_or_pos n with h0 | h0
  · subst h0
    go_enter Tryd.func79, Tryd.ntmps79
    go_wp2
    go_ret
    exact ⟨none, 0, rfl, Own.nil _ _ _, Below.refl _ _⟩
  · obtain ⟨i, hi, hz, hs, hby⟩ := info_parts Tryd.u8w.info
    have hold : (Builtin.firstCells i.size 0 (.slice none 0 0)).run Tryd.prog w.drew = .ok (([] : List Value).toArray) w.drew := run_firstCells_none w.drew i.size 0 0 0
    have hr : ∀ ty, (Builtin.append_ #[34, 3] ty #[.slice none 0 0, .int .i64 (n : Int)]).run Tryd.prog w =
        .ok (.slice (some ⟨w.heap.size, 0, none⟩) n (grownCap w n 0 5)) (w.drew.alloc (.cells (([] : List Value).toArray ++ Builtin.zeroCells (Value.int .u8 0).cells n ++ Builtin.zeroCells (Value.int .u8 0).cells (grownCap w n 0 5 - n)) 5)) := fun ty => by
      have h := Lib.run_append_grow_zeros (P := Tryd.prog) w 34 3 ty 5 i _ .i64 .i64 Tryd.u8w.ht Tryd.underlying3 hi hz none 0 0 [] hold n h0 (by omega) (by omega) (by omega) (by rw [hby]; omega)
        (by rw [hby]; exact growslice_fits (by omega) (by omega))
      rw [Nat.zero_add] at h
      exact h
    have hG1 := grownCap_ge w n 0 5
    have hG2 := grownCap_le_maxLen w n 0 5 (by unfold maxLen; omega)
    obtain ⟨G, hG⟩ : ∃ G, grownCap w n 0 5 = G := ⟨_, rfl⟩
    rw [hG] at hr hG1 hG2
    have hG63 : G ≤ 9223372036854775807 := by unfold maxLen at hG2; omega
    clear hold hG hi hz hs hby hG2
    go_enter Tryd.func79, Tryd.ntmps79
    go_wp2_with (at_builtin; refine Lib.wpList_append_run _ rfl _ _ _ _ rfl _ _ rfl rfl _ _ (hr _) ?_)
    go_ret
    refine ⟨_, _, rfl, ⟨rfl, .inr ⟨w.heap.size, G, _, rfl, Nat.le_refl _, heap_alloc_new w.drew _, by omega, by unfold maxLen; omega, ?_, by simp [bytes]⟩⟩, (Below.refl _ _).drew.alloc (Nat.le_refl _) _⟩
    simp [Builtin.zeroCells]
    omega

/-- A part: a slice and its bytes. -/
abbrev Part := Option Addr × Nat × Nat × List UInt8
def cat (ps : List Part) : List UInt8 := ps.flatMap fun p => p.2.2.2
/-- The cells from ad on hold slices that read as these parts. -/
def Parts (w : World) (B : Nat) (g : Nat) (ps : List Part) : Prop := ∀ j A n c bs, ps[j]? = some (A, n, c, bs) → w.cell? ⟨g, j, none⟩ = some (.slice A n c) ∧ Byt w B A n bs

theorem cat_take (ps : List Part) (k : Nat) (A : Option Addr) (n c : Nat) (bs : List UInt8) (h : ps[k]? = some (A, n, c, bs)) : cat (ps.take (k + 1)) = cat (ps.take k) ++ bs := by
  have hk : k < ps.length := (List.getElem?_eq_some_iff.1 h).1
  have he : ps[k] = (A, n, c, bs) := by rw [List.getElem?_eq_getElem hk] at h; injection h
  rw [List.take_succ_eq_append_getElem hk, cat, cat, List.flatMap_append]
  simp [he]
theorem cat_le (ps : List Part) (k : Nat) : (cat (ps.take k)).length ≤ (cat ps).length := by
  have : cat ps = cat (ps.take k) ++ cat (ps.drop k) := by unfold cat; rw [← List.flatMap_append, List.take_append_drop]
  rw [this, List.length_append]
  omega

set_option maxHeartbeats 1000000 in
theorem concat_any (ps : List Part) (out : List UInt8) (hout : cat ps = out) (g c B : Nat) (w : World) (hp : Parts w B g ps) (hg : g < w.heap.size) (hB : B ≤ w.heap.size) (hsz : out.length ≤ 1000000) (m : Nat) (hm : ps.length = m) (hm2 : m ≤ 1000000) :
    Calls Tryd.prog 72 #[.slice (some ⟨g, 0, none⟩) m c] w (PutRes w.heap.size out w) := by
  obtain ⟨T, hT⟩ : ∃ T, out.length = T := ⟨_, rfl⟩
  have hle : ∀ k, (cat (ps.take k)).length ≤ T := fun k => by have := cat_le ps k; rw [hout, hT] at this; exact this
  have HP := Lib.hid hp
  have HL := Lib.hid hle
  have HO := Lib.hid hout
  have HT := Lib.hid hT
  have HM := Lib.hid hm
  have HGB : Hid (g < w.heap.size ∧ B ≤ w.heap.size) := ⟨hg, hB⟩
  rw [hT] at hsz
  clear hp hle hout hT hm hg hB
  go_enter Tryd.func72, Tryd.ntmps72
  go_wp2
  go_loop [3, 5, 11] (fun s _ i => ∃ k : Nat, k ≤ m ∧ i = .int .i64 k ∧ s = .int .i64 ((cat (ps.take k)).length : Nat)) (fun _ _ i => m - (intOf i).toNat)
  case atStart => exact ⟨0, Nat.zero_le _, rfl, rfl⟩
  case round =>
    obtain ⟨k, hk, rfl, rfl⟩ := hrel
    have hq := HL.out k
    by_cases hlt : k < m
    · obtain ⟨⟨A, n, c', bs⟩, hpk⟩ : ∃ p, ps[k]? = some p := ⟨_, List.getElem?_eq_getElem (by rw [HM.out]; exact hlt)⟩
      obtain ⟨hcell, hbyt⟩ := HP.out k A n c' bs hpk
      have hq2 := HL.out (k + 1)
      rw [cat_take ps k A n c' bs hpk, List.length_append, hbyt.len] at hq2
      have HC : Hid ((cat (ps.take (k + 1))).length = (cat (ps.take k)).length + n) := by
        have := cat_take ps k A n c' bs hpk
        show _ = _
        rw [this, List.length_append, hbyt.len]
      obtain ⟨q, hqe⟩ : ∃ q, (cat (ps.take k)).length = q := ⟨_, rfl⟩
      rw [hqe] at hq hq2 HC ⊢
      clear hpk hbyt hqe
      go_wp2
      go_round
      case rel => exact ⟨k + 1, by omega, by go_num, by rw [HC.out]; go_num⟩
      case measure => simp [intOf]; omega
    · have hkn : k = m := by omega
      subst hkn
      have hall : (cat (ps.take k)).length = T := by rw [List.take_of_length_le (by rw [HM.out]; exact Nat.le_refl _), HO.out, HT.out]
      rw [hall]
      clear hall hq
      go_wp2_with (go_at_call 79; refine (grow_any T _ hsz).mono ?_; rintro e w1 ⟨A1, c1, rfl, hown, hbel⟩; have HO1 := Lib.hid hown; have HW1 := Lib.hid hbel; clear hown hbel)
      go_loopw [6, 8, 27] (fun v _ i wr => ∃ (j : Nat) (A2 : Option Addr) (c2 q : Nat), j ≤ k ∧ i = .int .i64 j ∧ v = .slice A2 q c2 ∧ Own wr w.heap.size 5 (.slice A2 q c2) q (cat (ps.take j)) ∧ Below w.heap.size w wr)
        (fun _ _ i _ => k - (intOf i).toNat)
      case atStart => exact ⟨0, A1, c1, 0, Nat.zero_le _, rfl, rfl, HO1.out, HW1.out⟩
      case round =>
        obtain ⟨j, A2, c2, q, hj, rfl, rfl, hown, hbel⟩ := hrel
        have HO2 := Lib.hid hown
        have HB2 := Lib.hid hbel
        clear hown hbel HO1 HW1
        by_cases hjk : j < k
        · obtain ⟨⟨A, n, c', bs⟩, hpk⟩ : ∃ p, ps[j]? = some p := ⟨_, List.getElem?_eq_getElem (by rw [HM.out]; exact hjk)⟩
          obtain ⟨hcell, hbyt⟩ := HP.out j A n c' bs hpk
          have hcell2 : wr.cell? ⟨g, j, none⟩ = some (.slice A n c') := (HB2.out.cell HGB.out.1).trans hcell
          have HY : Hid (Byt wr w.heap.size A n bs) := (hbyt.more HGB.out.2).below HB2.out
          have HC := Lib.hid (cat_take ps j A n c' bs hpk)
          have hq2 := HL.out (j + 1)
          rw [HC.out, List.length_append, hbyt.len, HO2.out.len] at hq2
          have hws := HB2.out.size
          clear hpk hcell hbyt
          go_wp2_with (at_builtin; refine wpList_append_byt rfl Tryd.u8w (.tmp 31) (.tmp 32) rfl rfl HO2.out rfl HY.out ?_ ?_ ?_; omega; omega; intro A3 c3 w3 hown3 hbel3; have HO3 := Lib.hid hown3; have HB3 : Hid (Below w.heap.size w w3) := HB2.out.trans hbel3; clear hown3 hbel3)
          go_roundw
          case rel => exact ⟨j + 1, A3, c3, q + n, by omega, by go_num, rfl, by rw [HC.out]; exact HO3.out, HB3.out⟩
          case measure => simp [intOf]; omega
        · have hjn : j = k := by omega
          subst hjn
          have hall : cat (ps.take j) = out := by rw [List.take_of_length_le (by rw [HM.out]; exact Nat.le_refl _), HO.out]
          rw [hall] at HO2
          obtain rfl := HO2.out.len
          clear hall
          go_wp2
          go_ret
          exact ⟨A2, c2, rfl, HO2.out, HB2.out⟩

theorem run_convert_byt {w : World} {B n : Nat} {A : Option Addr} {bs : List UInt8} (h : Byt w B A n bs) (c : Nat) :
    (convert 34 9 (.slice A n c)).run Tryd.prog w = .ok (.string ⟨bs.toArray⟩) w := by
  obtain rfl := h.len
  cases A with
  | none =>
    have h0 : bs.length = 0 := by
      rcases Nat.eq_zero_or_pos bs.length with h0 | h0
      · exact h0
      · obtain ⟨_, e, _⟩ := h.mem h0; cases e
    obtain rfl : bs = [] := List.eq_nil_of_length_eq_zero h0
    exact run_convert_bytes_nil w _ _ Tryd.u8w.ht Tryd.u8w.hu _ _ _ Tryd.underlying9
  | some ad =>
    refine run_convert_bytes_back w _ _ 5 ad c bs Tryd.u8w.ht Tryd.u8w.hu Tryd.underlying9 fun j hj => ?_
    obtain ⟨ad', e, _, hcell⟩ := h.mem (by omega)
    injection e with e
    subst e
    exact hcell j _ (List.getElem?_eq_getElem hj)

theorem str_eq (xs ys : List UInt8) : ((⟨xs.toArray⟩ : ByteArray).toList == (⟨ys.toArray⟩ : ByteArray).toList) = decide (xs = ys) := by
  rw [Lib.toList_data, Lib.toList_data]
  show (xs.toArray.toList == ys.toArray.toList) = _
  rw [Bool.eq_iff_iff]; simp

end Go.Proofs.YthgpmnblkhehkaaDoor
