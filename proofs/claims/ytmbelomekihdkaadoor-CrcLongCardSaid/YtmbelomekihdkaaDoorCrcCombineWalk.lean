/- The walks of the laws CrcCombine, CrcLong. -/
import Derived.Test.YtmbelomekihdkaaDoorCrcPartsWalk
namespace Go.Proofs.YtmbelomekihdkaaDoor
open Go.RowKit

theorem combine_200 (x y : Nat) (hx : x < 4294967296) (hy : y < 4294967296) (w : World) (ht : TabAt w) :
    Calls Tryd.prog 13 #[.int .u32 (x : Int), .int .u32 (y : Int), .int .i64 200] w fun e w' => e = .returned (.int .u32 ((Crc.sn (8 * 200) x) ^^^ y : Nat)) ∧ w = w' :=
  combine_any x y 200 hx hy (by decide) w ht

set_option maxHeartbeats 1000000 in
theorem crcCombine_any (xs bs : List UInt8) (A A' : Option Addr) (n cap n' cap' : Nat) (w : World) (ht : TabAt w) (h0 : 0 < w.heap.size) (ha : Byt w w.heap.size A n xs) (hb : Byt w w.heap.size A' n' bs)
    (hn : n ≤ cap) (hcap : cap ≤ 9223372036854775807) (hn' : n' ≤ cap') (hcap' : cap' ≤ 9223372036854775807) :
    Calls Tryd.prog 6 #[.slice A n cap, .slice A' n' cap'] w fun e w' => e = .returned (.bool true) ∧ Below w.heap.size w w' := by
  have HA : Hid (∀ m w', m ≤ n → Below w.heap.size w w' → Byt w' w.heap.size A m (xs.take m)) := fun m w' hm hw => (ha.take hm).below hw
  have HB : Hid (∀ m w', m ≤ n' → Below w.heap.size w w' → Byt w' w.heap.size A' m (bs.take m)) := fun m w' hm hw => (hb.take hm).below hw
  have HL : Hid (∀ m, m ≤ n' → (bs.take m).length = m) := fun m hm => by rw [List.length_take, hb.len]; omega
  have HT := Lib.hid ht
  have H0 := Lib.hid h0
  clear ha hb ht h0
  by_cases h3 : n ≤ 200 <;> by_cases h4 : n' ≤ 200
  all_goals
    go_enter Tryd.func6, Tryd.ntmps6
    go_wp2_with fail
    go_quiet (fail)
    go_wp2_with fail
    refine (awake_any _ (HT.out.below (below_drewN (Below.refl _ _) _) H0.out) H0.out).mono ?_
    rintro e w1 ⟨rfl, hw1⟩
    have HW : Hid (Below w.heap.size w w1) := (below_drewN (Below.refl _ _) _).trans hw1
    have HT1 := Lib.hid (HT.out.below HW.out H0.out)
    clear hw1
    go_wp2_with fail
    refine (refSum_any _ _ _ _ w.heap.size _ (HA.out _ _ ?_ HW.out) ?_).mono ?_
    · omega
    · omega
    rintro e w' ⟨rfl, rfl⟩
    go_wp2_with fail
    refine (refSum_any _ _ _ _ w.heap.size _ (HB.out _ _ ?_ HW.out) ?_).mono ?_
    · omega
    · omega
    rintro e w' ⟨rfl, rfl⟩
    go_wp2_with fail
    first
      | with_reducible refine (combine_any _ _ n' (Crc.sum_lt _) (Crc.sum_lt _) (by omega) _ HT1.out).mono ?_
      | with_reducible refine (combine_200 _ _ (Crc.sum_lt _) (Crc.sum_lt _) _ HT1.out).mono ?_
    rintro e w' ⟨rfl, rfl⟩
    first
      | (have e2 := Crc.combine (xs.take n) (bs.take n'); rw [HL.out _ (by omega)] at e2; rw [e2])
      | (have e2 := Crc.combine (xs.take n) (bs.take 200); rw [HL.out _ (by omega)] at e2; rw [e2])
      | (have e2 := Crc.combine (xs.take 200) (bs.take n'); rw [HL.out _ (by omega)] at e2; rw [e2])
      | (have e2 := Crc.combine (xs.take 200) (bs.take 200); rw [HL.out _ (by omega)] at e2; rw [e2])
    clear e2
    go_wp2_with (first
      | (at_builtin
         refine wpList_append_byt rfl Tryd.u8s (.const (.slice none 0 0)) (.tmp 24) rfl rfl (Own.nil w1 w.heap.size _) rfl (HA.out _ _ ?_ HW.out) ?_ HW.out.size ?_
         omega
         omega
         intro A1 c1 w2 hown1 hb1
         simp only [Nat.zero_add, List.nil_append] at hown1
         have HO1 := Lib.hid hown1
         have HW2 := Lib.hid (HW.out.trans hb1)
         clear hown1 hb1)
      | (at_builtin
         refine wpList_append_byt rfl Tryd.u8s (.tmp 25) (.tmp 26) rfl rfl HO1.out rfl (HB.out _ _ ?_ HW2.out) ?_ HW2.out.size ?_
         omega
         omega
         intro A2 c2 w3 hown2 hb2
         have HO2 := Lib.hid hown2
         have HW3 := Lib.hid (HW2.out.trans hb2)
         clear hown2 hb2)
      | (go_at_call 10
         refine (refSum_any _ _ _ _ _ _ HO2.out.byt ?_).mono ?_
         omega
         rintro e w' ⟨rfl, rfl⟩))
    go_ret
    exact ⟨rfl, HW3.out⟩

set_option maxHeartbeats 1000000 in
theorem crcLong_any (x y : Nat) (n : Int) (w : World) (ht : TabAt w) (h0 : 0 < w.heap.size) (hx : x < 4294967296) (hlo : -9223372036854775808 ≤ n) (hhi : n ≤ 9223372036854775807) :
    Calls Tryd.prog 7 #[.int .u32 (x : Int), .int .u32 (y : Int), .int .i64 n] w fun e w' => e = .returned (.bool true) ∧ Below w.heap.size w w' := by
  by_cases h1 : 0 ≤ n <;> by_cases h2 : n ≤ 1048576
  · go_enter Tryd.func7, Tryd.ntmps7
    go_wp2_with (first
      | (go_at_call 8; refine (awake_any _ ht h0).mono ?_; rintro e w1 ⟨rfl, hw1⟩; have HW := Lib.hid hw1; clear hw1)
      | (go_at_call 13; refine (combine_any x 0 0 hx (by decide) (by decide) _ (ht.below HW.out h0)).mono ?_; rintro e w2 ⟨rfl, rfl⟩; simp only [Crc.sn, Nat.xor_zero]))
    go_ret
    exact ⟨rfl, HW.out⟩
  · go_enter Tryd.func7, Tryd.ntmps7
    go_wp2_with (first
      | (go_at_call 8; refine (awake_any _ ht h0).mono ?_; rintro e w1 ⟨rfl, hw1⟩; have HW := Lib.hid hw1; clear hw1)
      | (go_at_call 13; refine (combine_out x y n (by omega) _).mono ?_; rintro e w2 ⟨rfl, rfl⟩))
    go_ret
    exact ⟨rfl, HW.out⟩
  · go_enter Tryd.func7, Tryd.ntmps7
    go_wp2_with (first
      | (go_at_call 8; refine (awake_any _ ht h0).mono ?_; rintro e w1 ⟨rfl, hw1⟩; have HW := Lib.hid hw1; clear hw1)
      | (go_at_call 13; refine (combine_out x y n (by omega) _).mono ?_; rintro e w2 ⟨rfl, rfl⟩))
    go_ret
    exact ⟨rfl, HW.out⟩
  · exact absurd h2 (by omega)
end Go.Proofs.YtmbelomekihdkaaDoor
