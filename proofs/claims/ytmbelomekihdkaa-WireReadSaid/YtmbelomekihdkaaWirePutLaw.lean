/- The walk of the law WirePut. -/
import Derived.Test.YtmbelomekihdkaaWireLaw
namespace Go.Proofs.Ytmbelomekihdkaa
open Go.RowKit

theorem own_le {w : World} {base n : Nat} {e : TypeId} {v : Value} {bs : List UInt8} (h : Own w base e v n bs) : n ≤ 9223372036854775807 := by
  obtain ⟨_, _, _, h2, h3⟩ := h.form
  exact Nat.le_trans h2 h3

set_option maxHeartbeats 1000000 in
theorem wirePut_any (bs : List UInt8) (A : Option Addr) (m cap n : Nat) (width : Int) (w : World) (hb : Byt w w.heap.size A m bs) (hm : m ≤ cap) (hcap : cap ≤ 9223372036854775807) (hlo : -9223372036854775808 ≤ width) (hhi : width ≤ 9223372036854775807) :
    Calls Try.prog 6 #[.slice A m cap, .int .u64 (n : Int), .int .i64 width] w fun e w' => e = .returned (.bool true) ∧ Below w.heap.size w w' := by
  have HB : Hid (∀ k w', k ≤ m → Below w.heap.size w w' → Byt w' w.heap.size A k (bs.take k)) := fun k w' hk hw => (hb.take hk).below hw
  clear hb
  by_cases h20 : m ≤ 20
  all_goals
    go_enter Try.func6, Try.ntmps6
    go_wp2_with (at_builtin; refine wpList_append_byt rfl Try.u8w (.const (.slice none 0 0)) (.tmp 13) rfl rfl (Own.nil w w.heap.size _) rfl (HB.out _ _ ?_ (Below.refl _ _)) ?_ (Nat.le_refl _) ?_; omega; omega; intro A1 c1 w1 hown hbel; simp only [Nat.zero_add, List.nil_append] at hown; have HO := Lib.hid hown; have HW := Lib.hid hbel; clear hown hbel)
    refine (wireAwake_any _).mono ?_
    rintro e w2 ⟨rfl, hb2⟩
    have HO2 := Lib.hid (HO.out.keep hb2)
    have HW2 := Lib.hid (HW.out.trans (hb2.mono HW.out.size))
    clear hb2
    go_wp2_with fail
    refine (put_any _ _ _ _ w.heap.size n width w2 (HB.out _ _ ?_ HW2.out) ?_ HW2.out.size hlo hhi).mono ?_
    · omega
    · omega
    rintro e w3 ⟨A3, c3, rfl, hown3, hbel3⟩
    have HW3 := Lib.hid (HW2.out.trans (hbel3.mono HW2.out.size))
    have HO3 := Lib.hid (HO2.out.keep hbel3)
    have HP3 := Lib.hid hown3
    clear hown3 hbel3
    go_wp2_with fail
    refine (refPut_any _ _ _ _ w.heap.size n width w3 (HB.out _ _ ?_ HW3.out) ?_ HW3.out.size hlo hhi).mono ?_
    · omega
    · omega
    rintro e w4 ⟨A4, c4, rfl, hown4, hbel4⟩
    have HW4 := Lib.hid (HW3.out.trans (hbel4.mono HW3.out.size))
    have HO4 := Lib.hid (HO3.out.keep hbel4)
    have HP4 := Lib.hid (HP3.out.keep hbel4)
    have HQ4 := Lib.hid hown4
    have HPL := Lib.hid (own_le HP4.out)
    clear hown4 hbel4
    go_wp2_with fail
    refine (eq_any _ _ _ _ _ _ _ _ _ _ w4 HP4.out.byt HQ4.out.byt HPL.out HPL.out).mono ?_
    rintro e w5 ⟨rfl, k, rfl⟩
    rw [decide_eq_true rfl]
    go_wp2_with fail
    refine (eq_any _ _ _ _ _ _ _ _ _ _ _ ((HB.out _ _ ?_ HW4.out).drewN k) (HO4.out.drewN k).byt ?_ ?_).mono ?_
    · omega
    · omega
    · omega
    rintro e w6 ⟨rfl, k', rfl⟩
    rw [decide_eq_true rfl]
    go_wp2
    go_ret
    refine ⟨rfl, ?_⟩
    have := HW4.out
    exact ⟨this.os, this.tape, this.output, this.size, this.block⟩
end Go.Proofs.Ytmbelomekihdkaa
