/- The walks of the reference's Update and Sum (crc). -/
import Derived.Test.YthgpmnblkhehkaaDoorCrcWalks
namespace Go.Proofs.YthgpmnblkhehkaaDoor
open Go.RowKit

theorem refBit (t b q : Nat) (ht : t < 4294967296) (hb : b < 256) : bits .and .u32 (bits .xor .u32 (t : Int) ((b : Int) / 2 ^ q % 4294967296)) 1 = (((t ^^^ (b / 2 ^ q)) % 2 : Nat) : Int) := by
  have h1 : b / 2 ^ q < 4294967296 := Nat.lt_of_le_of_lt (Nat.div_le_self _ _) (by omega)
  have e : ((b : Int) / 2 ^ q % 4294967296) = ((b / 2 ^ q : Nat) : Int) := by
    have : ((b : Int) / 2 ^ q) = ((b / 2 ^ q : Nat) : Int) := by simp
    rw [this]; exact Int.emod_eq_of_lt (Int.natCast_nonneg _) (by have := Int.ofNat_lt.2 h1; exact this)
  rw [e, xor32 _ _ ht h1]
  have h2 := u32_and_nat (t ^^^ (b / 2 ^ q)) 1 (Crc.xor_lt _ _ ht h1) (by decide)
  rw [nat_mask1] at h2
  exact h2
theorem refPoly (t : Nat) (ht : t < 4294967296) : bits .xor .u32 ((t : Int) / 2) 2197175160 = ((t / 2 ^^^ 2197175160 : Nat) : Int) := by
  have := xor32 (t / 2) 2197175160 (by omega) (by decide)
  rw [← this, show ((t / 2 : Nat) : Int) = (t : Int) / 2 from by omega]
  rfl

set_option maxHeartbeats 400000 in
theorem refUpdate_any (c : Nat) (bs : List UInt8) (A : Option Addr) (n cap B : Nat) (hc : c < 4294967296) (w : World) (hb : Byt w B A n bs) (hn : n ≤ 9223372036854775807) :
    Calls Tryd.prog 82 #[.int .u32 (c : Int), .slice A n cap] w fun e w' => e = .returned (.int .u32 (Crc.upd c bs : Nat)) ∧ w = w' := by
  have r1 := not32 c hc
  obtain ⟨d, hd⟩ : ∃ d, Crc.inv c = d := ⟨_, rfl⟩
  have hd1 : d < 4294967296 := by rw [← hd]; exact Crc.inv_lt c
  rw [hd] at r1
  have Hd := Lib.hid hd
  have hlen := hb.len
  have HL := Lib.hid hlen
  have HB := Lib.hid hb
  clear hd hlen hb
  go_enter Tryd.func82, Tryd.ntmps82
  go_wp2
  clear r1
  go_loop [0, 5] (fun c i => ∃ k : Nat, k ≤ n ∧ i = .int .i64 k ∧ c = .int .u32 (Crc.run d (bs.take k) : Nat)) (fun _ i => n - (intOf i).toNat)
  case atStart => exact ⟨0, Nat.zero_le _, rfl, rfl⟩
  case round =>
    obtain ⟨k, hk, rfl, rfl⟩ := hrel
    have hs1 := Crc.run_lt d (bs.take k) hd1
    obtain ⟨s, hs⟩ : ∃ s, Crc.run d (bs.take k) = s := ⟨_, rfl⟩
    rw [hs] at hs1 ⊢
    have HS := Lib.hid hs
    clear hs
    by_cases hlt : k < n
    · obtain ⟨ad, b, rfl, hadB, hbk, hcell⟩ := HB.out.get hlt
      have hb256 := b.toNat_lt
      have Hbk := Lib.hid hbk
      clear hbk
      go_wp2
      go_loop [0, 6] (fun c i => ∃ q : Nat, q ≤ 8 ∧ i = .int .u64 q ∧ c = .int .u32 (Crc.rbits s b.toNat q : Nat)) (fun _ i => 8 - (intOf i).toNat)
      case atStart => exact ⟨0, by omega, rfl, rfl⟩
      case round =>
        obtain ⟨q, hq, rfl, rfl⟩ := hrel
        have ht1 := Crc.rbits_lt s b.toNat q hs1
        obtain ⟨t, ht⟩ : ∃ t, Crc.rbits s b.toNat q = t := ⟨_, rfl⟩
        rw [ht] at ht1 ⊢
        have HT := Lib.hid ht
        clear ht
        by_cases hq8 : q < 8
        · have hbit := refBit t b.toNat q ht1 hb256
          by_cases h1 : (t ^^^ (b.toNat / 2 ^ q)) % 2 = 1
          · have hstep : Crc.rbits s b.toNat (q + 1) = t / 2 ^^^ 2197175160 := by
              show Crc.rbit (Crc.rbits s b.toNat q) _ _ = _
              rw [HT.out, Crc.rbit, if_pos h1]
            rw [h1] at hbit
            have HF := Lib.hid hstep
            have hp := refPoly t ht1
            clear hstep h1
            go_wp2
            go_round
            case rel => exact ⟨q + 1, by omega, by go_num, by rw [HF.out]⟩
            case measure => simp [intOf]; omega
          · have hstep : Crc.rbits s b.toNat (q + 1) = t / 2 := by
              show Crc.rbit (Crc.rbits s b.toNat q) _ _ = _
              rw [HT.out, Crc.rbit, if_neg h1]
            rw [show (t ^^^ (b.toNat / 2 ^ q)) % 2 = 0 by omega] at hbit
            have HF := Lib.hid hstep
            clear hstep h1
            go_wp2
            go_round
            case rel => exact ⟨q + 1, by omega, by go_num, by rw [HF.out]; go_num⟩
            case measure => simp [intOf]; omega
        · have hq9 : q = 8 := by omega
          subst hq9
          go_wp2
          go_round
          case rel => exact ⟨k + 1, by omega, by go_num, by
            have h1 := Hbk.out
            have hkl : k < bs.length := by rw [HL.out]; exact hlt
            rw [Crc.run_take _ _ _ hkl, HS.out]
            rw [List.getElem?_eq_getElem hkl] at h1
            injection h1 with h1
            rw [h1, ← Crc.rbits8 _ _ hb256, HT.out]⟩
          case measure => simp [intOf]; omega
    · have hkn : k = n := by omega
      subst hkn
      have r2 := not32 s hs1
      have hfin : Crc.upd c bs = Crc.inv s := by
        unfold Crc.upd
        rw [Hd.out, ← HS.out, List.take_of_length_le (by rw [HL.out]; exact Nat.le_refl _)]
      have HF := Lib.hid hfin
      clear hfin
      go_wp2
      go_ret
      exact ⟨by rw [HF.out]; rfl, rfl⟩

set_option maxHeartbeats 400000 in
theorem refSum_any (bs : List UInt8) (A : Option Addr) (n cap B : Nat) (w : World) (hb : Byt w B A n bs) (hn : n ≤ 9223372036854775807) :
    Calls Tryd.prog 78 #[.slice A n cap] w fun e w' => e = .returned (.int .u32 (Crc.sum bs : Nat)) ∧ w = w' := by
  go_enter Tryd.func78, Tryd.ntmps78
  go_wp2_with (go_at_call 82; refine (refUpdate_any 0 bs A n cap B (by decide) _ hb hn).mono ?_; rintro e w' ⟨rfl, rfl⟩)
  go_ret
  exact ⟨rfl, rfl⟩
end Go.Proofs.YthgpmnblkhehkaaDoor
