/- The walks of the laws CrcParts, CrcCombine, CrcLong. -/
import Derived.Test.YtmbelomekihdkaaDoorCrcSumWalk
import Derived.Test.YtmbelomekihdkaaDoorApp
namespace Go.Proofs.YtmbelomekihdkaaDoor
open Go.RowKit

theorem Tryd.u8s : U8s Tryd.prog 23 5 := ⟨Tryd.underlying23, Tryd.underlying5, by kernel_rfl⟩

theorem drewN_size (w : World) (k : Nat) : (w.drewN k).heap.size = w.heap.size := rfl
theorem below_drewN {B : Nat} {a w : World} (h : Below B a w) (n : Nat) : Below B a (w.drewN n) := ⟨h.os, h.tape, h.output, h.size, h.block⟩

set_option maxHeartbeats 1000000 in
theorem crcParts_any (xs bs : List UInt8) (A A' : Option Addr) (n cap n' cap' : Nat) (w : World) (ht : TabAt w) (h0 : 0 < w.heap.size) (ha : Byt w w.heap.size A n xs) (hb : Byt w w.heap.size A' n' bs)
    (hn : n ≤ cap) (hcap : cap ≤ 9223372036854775807) (hn' : n' ≤ cap') (hcap' : cap' ≤ 9223372036854775807) :
    Calls Tryd.prog 4 #[.slice A n cap, .slice A' n' cap'] w fun e w' => e = .returned (.bool true) ∧ Below w.heap.size w w' := by
  have HA : Hid (∀ m w', m ≤ n → Below w.heap.size w w' → Byt w' w.heap.size A m (xs.take m)) := fun m w' hm hw => (ha.take hm).below hw
  have HB : Hid (∀ m w', m ≤ n' → Below w.heap.size w w' → Byt w' w.heap.size A' m (bs.take m)) := fun m w' hm hw => (hb.take hm).below hw
  have HT := Lib.hid ht
  have H0 := Lib.hid h0
  clear ha hb ht h0
  by_cases h3 : n ≤ 200 <;> by_cases h4 : n' ≤ 200
  all_goals
    go_enter Tryd.func4, Tryd.ntmps4
    go_wp2_with fail
    go_quiet (fail)
    go_wp2_with fail
    refine (awake_any _ (HT.out.below (below_drewN (Below.refl _ _) _) H0.out) H0.out).mono ?_
    rintro e w1 ⟨rfl, hw1⟩
    have HW : Hid (Below w.heap.size w w1) := (below_drewN (Below.refl _ _) _).trans hw1
    have HT1 := Lib.hid (HT.out.below HW.out H0.out)
    clear hw1
    go_wp2_with fail
    refine (sum_any _ _ _ _ w.heap.size _ HT1.out (HA.out _ _ ?_ HW.out) ?_).mono ?_
    · omega
    · omega
    rintro e w' ⟨rfl, rfl⟩
    go_wp2_with fail
    refine (update_any _ _ _ _ _ w.heap.size (Crc.sum_lt _) _ HT1.out (HB.out _ _ ?_ HW.out) ?_).mono ?_
    · omega
    · omega
    rintro e w' ⟨rfl, rfl⟩
    rw [Crc.upd_sum]
    go_wp2_with (first
      | (at_builtin
         refine wpList_append_byt rfl Tryd.u8s (.const (.slice none 0 0)) (.tmp 21) rfl rfl (Own.nil w1 w.heap.size _) rfl (HA.out _ _ ?_ HW.out) ?_ HW.out.size ?_
         omega
         omega
         intro A1 c1 w2 hown1 hb1
         simp only [Nat.zero_add, List.nil_append] at hown1
         have HO1 := Lib.hid hown1
         have HW2 := Lib.hid (HW.out.trans hb1)
         clear hown1 hb1)
      | (at_builtin
         refine wpList_append_byt rfl Tryd.u8s (.tmp 22) (.tmp 23) rfl rfl HO1.out rfl (HB.out _ _ ?_ HW2.out) ?_ HW2.out.size ?_
         omega
         omega
         intro A2 c2 w3 hown2 hb2
         have HO2 := Lib.hid hown2
         have HW3 := Lib.hid (HW2.out.trans hb2)
         clear hown2 hb2)
      | (go_at_call 9
         refine (sum_any _ _ _ _ _ _ (HT.out.below HW3.out H0.out) HO2.out.byt ?_).mono ?_
         omega
         rintro e w' ⟨rfl, rfl⟩))
    go_ret
    exact ⟨rfl, HW3.out⟩
end Go.Proofs.YtmbelomekihdkaaDoor
