/- The walk of the law CrcSum, and of Awake. -/
import Derived.Test.YtmbelomekihdkaaDoorCrcRef
import Derived.Lib.SlBytesConst
namespace Go.Proofs.YtmbelomekihdkaaDoor
open Go.RowKit

theorem sum_digits : Crc.sum [49, 50, 51, 52, 53, 54, 55, 56, 57] = 3808858755 := by decide

set_option maxHeartbeats 400000 in
theorem awake_any (w : World) (ht : TabAt w) (h0 : 0 < w.heap.size) :
    Calls Tryd.prog 8 #[] w fun e w' => e = .returned (.bool true) ∧ Below w.heap.size w w' := by
  have kc := fun (w : World) (C : Array Value) (n c : Nat) => Lib.run_convert_bytes_const (P := Tryd.prog) w 23 5 C n c Tryd.underlying23 Tryd.underlying5
  have HT := Lib.hid ht
  have HS := Lib.hid sum_digits
  clear ht
  go_enter Tryd.func8, Tryd.ntmps8
  go_wp2_with fail
  refine (sum_any [49, 50, 51, 52, 53, 54, 55, 56, 57] _ 9 9 (w.heap.size + 1) _ (HT.out.below ((Below.refl w.heap.size w).alloc (Nat.le_refl _) _) h0) (Byt.new w _ _ _ [49, 50, 51, 52, 53, 54, 55, 56, 57] rfl) (by decide)).mono ?_
  rintro e w' ⟨rfl, rfl⟩
  rw [HS.out]
  go_wp2
  go_ret
  exact ⟨rfl, (Below.refl w.heap.size w).alloc (Nat.le_refl _) _⟩

set_option maxHeartbeats 400000 in
theorem crcSum_any (c : Nat) (bs : List UInt8) (A : Option Addr) (n cap : Nat) (hc : c < 4294967296) (w : World) (ht : TabAt w) (h0 : 0 < w.heap.size) (hb : Byt w w.heap.size A n bs) (hn : n ≤ cap) (hcap : cap ≤ 9223372036854775807) :
    Calls Tryd.prog 3 #[.int .u32 (c : Int), .slice A n cap] w fun e w' => e = .returned (.bool true) ∧ Below w.heap.size w w' := by
  have HB : Hid (∀ m w', m ≤ n → Below w.heap.size w w' → Byt w' w.heap.size A m (bs.take m)) := fun m w' hm hw => (hb.take hm).below hw
  have HT := Lib.hid ht
  have H0 := Lib.hid h0
  clear hb ht h0
  by_cases h3 : n ≤ 300
  all_goals
    go_enter Tryd.func3, Tryd.ntmps3
    go_wp2_with fail
    refine (awake_any w HT.out H0.out).mono ?_
    rintro e w1 ⟨rfl, hw1⟩
    have HW := Lib.hid hw1
    have HT1 := Lib.hid (HT.out.below hw1 H0.out)
    clear hw1
    go_wp2_with (first
      | (go_at_call 9; refine (sum_any _ _ _ _ w.heap.size _ HT1.out (HB.out _ _ ?_ HW.out) ?_).mono ?_; omega; omega; rintro e w' ⟨rfl, rfl⟩)
      | (go_at_call 10; refine (refSum_any _ _ _ _ w.heap.size _ (HB.out _ _ ?_ HW.out) ?_).mono ?_; omega; omega; rintro e w' ⟨rfl, rfl⟩)
      | (go_at_call 11; refine (update_any _ _ _ _ _ w.heap.size hc _ HT1.out (HB.out _ _ ?_ HW.out) ?_).mono ?_; omega; omega; rintro e w' ⟨rfl, rfl⟩)
      | (go_at_call 12; refine (refUpdate_any _ _ _ _ _ w.heap.size hc _ (HB.out _ _ ?_ HW.out) ?_).mono ?_; omega; omega; rintro e w' ⟨rfl, rfl⟩))
    go_ret
    exact ⟨rfl, HW.out⟩
end Go.Proofs.YtmbelomekihdkaaDoor
