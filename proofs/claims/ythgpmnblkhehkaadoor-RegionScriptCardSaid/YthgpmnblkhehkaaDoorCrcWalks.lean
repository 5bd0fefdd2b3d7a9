/- The walks of crc.step, crc.Update, crc.Sum, crc.Combine. -/
import Derived.Test.YthgpmnblkhehkaaDoorRows
import Derived.Test.YthgpmnblkhehkaaDoorCrc
import Derived.Test.YthgpmnblkhehkaaDoorMem
import Derived.Lib.Hide
import Derived.WalkKit
import Derived.WalkSpells
import Derived.WalkLawsBesides
import Derived.Deep.QuietTactic
import Derived.BigQuiet
namespace Go.Proofs.YthgpmnblkhehkaaDoor
open Go.RowKit

/-- The table's cells, as they lie. -/
def TabAt (w : World) : Prop := ∀ i, i < 16 → w.cell? ⟨0, i, none⟩ = some (.int .u32 (Crc.tab.getD i 0 : Nat))

theorem xor32 (a b : Nat) (ha : a < 4294967296) (hb : b < 4294967296) : bits .xor .u32 (a : Int) (b : Int) = ((a ^^^ b : Nat) : Int) := u32_xor_nat a b ha hb
theorem and15 (a : Nat) (ha : a < 4294967296) : bits .and .u32 (a : Int) 15 = ((a % 16 : Nat) : Int) := by
  have := u32_and_nat a 15 ha (by decide)
  rw [nat_mask4] at this
  exact this

theorem xor32d (a b : Nat) (ha : a < 4294967296) (hb : b < 4294967296) : bits .xor .u32 ((a : Int) / 16) (b : Int) = ((a / 16 ^^^ b : Nat) : Int) := by
  rw [← u32_xor_nat (a / 16) b (by omega) hb, show ((a : Int) / 16) = ((a / 16 : Nat) : Int) from by omega]

set_option maxHeartbeats 400000 in
theorem step_any (c x : Nat) (hc : c < 4294967296) (hx : x < 256) (w : World) (ht : TabAt w) :
    Calls Tryd.prog 80 #[.int .u32 (c : Int), .int .u8 (x : Int)] w fun e w' => e = .returned (.int .u32 (Crc.step c x : Nat)) ∧ w = w' := by
  obtain ⟨d, hd⟩ : ∃ d, c ^^^ x = d := ⟨_, rfl⟩
  have hd1 : d < 4294967296 := by rw [← hd]; exact Crc.xor_lt _ _ hc (by omega)
  obtain ⟨t1, ht1⟩ : ∃ t, Crc.tab.getD (d % 16) 0 = t := ⟨_, rfl⟩
  have ht1l : t1 < 4294967296 := by rw [← ht1]; exact Crc.tab_lt _ (by omega)
  obtain ⟨e, he⟩ : ∃ e, (d / 16) ^^^ t1 = e := ⟨_, rfl⟩
  have he1 : e < 4294967296 := by rw [← he]; exact Crc.xor_lt _ _ (by omega) ht1l
  obtain ⟨t2, ht2⟩ : ∃ t, Crc.tab.getD (e % 16) 0 = t := ⟨_, rfl⟩
  have ht2l : t2 < 4294967296 := by rw [← ht2]; exact Crc.tab_lt _ (by omega)
  obtain ⟨f, hf⟩ : ∃ f, (e / 16) ^^^ t2 = f := ⟨_, rfl⟩
  have hfin : Crc.step c x = f := by simp only [Crc.step]; rw [hd, ht1, he, ht2, hf]
  have r1 := xor32 c x hc (by omega)
  rw [hd] at r1
  have r2 := and15 d hd1
  have r3 := xor32d d t1 hd1 ht1l
  rw [he] at r3
  have r4 := and15 e he1
  have r5 := xor32d e t2 he1 ht2l
  rw [hf] at r5
  have q1 := ht (d % 16) (by omega)
  rw [ht1] at q1
  have q2 := ht (e % 16) (by omega)
  rw [ht2] at q2
  have Hf := Lib.hid hfin
  clear ht hd ht1 he ht2 hf hfin
  go_enter Tryd.func80, Tryd.ntmps80
  go_wp2
  go_ret
  exact ⟨by rw [Hf.out]; rfl, rfl⟩
theorem TabAt.below {w w' : World} {B : Nat} (h : TabAt w) (hb : Below B w w') (hB : 0 < B) : TabAt w' := fun i hi => (hb.cell (by simpa using hB)).trans (h i hi)
theorem not32 (c : Nat) (hc : c < 4294967296) : bits .xor .u32 IntKind.u32.max (c : Int) = ((Crc.inv c : Nat) : Int) := by
  have h := u32_xor_nat 4294967295 c (by decide) hc
  rw [Nat.xor_comm, ← Crc.inv_xor c hc] at h
  exact h

set_option maxHeartbeats 400000 in
theorem update_any (c : Nat) (bs : List UInt8) (A : Option Addr) (n cap B : Nat) (hc : c < 4294967296) (w : World) (ht : TabAt w) (hb : Byt w B A n bs) (hn : n ≤ 9223372036854775807) :
    Calls Tryd.prog 73 #[.int .u32 (c : Int), .slice A n cap] w fun e w' => e = .returned (.int .u32 (Crc.upd c bs : Nat)) ∧ w = w' := by
  have r1 := not32 c hc
  obtain ⟨d, hd⟩ : ∃ d, Crc.inv c = d := ⟨_, rfl⟩
  have hd1 : d < 4294967296 := by rw [← hd]; exact Crc.inv_lt c
  rw [hd] at r1
  have Hd := Lib.hid hd
  have hlen := hb.len
  have HL := Lib.hid hlen
  have HT := Lib.hid ht
  have HB := Lib.hid hb
  clear hd hlen ht hb
  go_enter Tryd.func73, Tryd.ntmps73
  go_wp2
  clear r1
  go_loop [0, 6, 11] (fun c _ i => ∃ k : Nat, k ≤ n ∧ i = .int .i64 k ∧ c = .int .u32 (Crc.run d (bs.take k) : Nat)) (fun _ _ i => n - (intOf i).toNat)
  case atStart => exact ⟨0, Nat.zero_le _, rfl, rfl⟩
  case round =>
    obtain ⟨k, hk, rfl, rfl⟩ := hrel
    have hs1 := Crc.run_lt d (bs.take k) hd1
    obtain ⟨s, hs⟩ : ∃ s, Crc.run d (bs.take k) = s := ⟨_, rfl⟩
    rw [hs] at hs1 ⊢
    have HS := Lib.hid hs
    clear hs
    by_cases hlt : k < n
    · obtain ⟨ad, b, rfl, hadB, hbk, hcell⟩ := HB.out.get hlt
      have hb256 := b.toNat_lt
      have Hbk := Lib.hid hbk
      clear hbk
      go_wp2_with (go_at_call 80; refine (step_any s b.toNat hs1 hb256 _ HT.out).mono ?_; rintro e w' ⟨rfl, rfl⟩)
      go_round
      case rel => exact ⟨k + 1, by omega, by go_num, by
        have h1 := Hbk.out
        have hkl : k < bs.length := by rw [HL.out]; exact hlt
        rw [Crc.run_take _ _ _ hkl, HS.out]
        rw [List.getElem?_eq_getElem hkl] at h1
        injection h1 with h1
        rw [h1]⟩
      case measure => simp [intOf]; omega
    · have hkn : k = n := by omega
      subst hkn
      have r2 := not32 s hs1
      have hfin : Crc.upd c bs = Crc.inv s := by
        unfold Crc.upd
        rw [Hd.out, ← HS.out, List.take_of_length_le (by rw [HL.out]; exact Nat.le_refl _)]
      have HF := Lib.hid hfin
      clear hfin
      go_wp2
      go_ret
      exact ⟨by rw [HF.out]; rfl, rfl⟩

set_option maxHeartbeats 400000 in
theorem sum_any (bs : List UInt8) (A : Option Addr) (n cap B : Nat) (w : World) (ht : TabAt w) (hb : Byt w B A n bs) (hn : n ≤ 9223372036854775807) :
    Calls Tryd.prog 74 #[.slice A n cap] w fun e w' => e = .returned (.int .u32 (Crc.sum bs : Nat)) ∧ w = w' := by
  go_enter Tryd.func74, Tryd.ntmps74
  go_wp2_with (go_at_call 73; refine (update_any 0 bs A n cap B (by decide) _ ht hb hn).mono ?_; rintro e w' ⟨rfl, rfl⟩)
  go_ret
  exact ⟨rfl, rfl⟩

end Go.Proofs.YthgpmnblkhehkaaDoor
