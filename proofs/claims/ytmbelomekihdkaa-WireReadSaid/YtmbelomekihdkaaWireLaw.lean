/- The walks of the laws WirePut, WireRound and of their Awake. -/
import Derived.Test.YtmbelomekihdkaaReader2
import Derived.Lib.SlBytesConst
namespace Go.Proofs.Ytmbelomekihdkaa
open Go.RowKit

theorem put_258 : putB [] 258 3 = [0, 1, 2] := by decide

set_option maxHeartbeats 1000000 in
theorem wireAwake_any (w : World) : Calls Try.prog 18 #[] w fun e w' => e = .returned (.bool true) ∧ Below w.heap.size w w' := by
  have kc := fun (w : World) (C : Array Value) (n c : Nat) => Lib.run_convert_bytes_const (P := Try.prog) w 35 5 C n c Try.underlying35 Try.underlying5
  go_enter Try.func18, Try.ntmps18
  go_wp2_with fail
  refine (newReader_any [1, 2, 3] _ _ _ (w.heap.size + 1) _ (Byt.new w _ _ _ [1, 2, 3] rfl) (by decide) (by simp)).mono ?_
  rintro e w1 ⟨g, rfl, hr, hg, hb⟩
  have HR := Lib.hid hr
  have HG : Hid (w.heap.size ≤ g) := by have := hg; simp at this; show _ ≤ _; omega
  have HB : Hid (Below w.heap.size w w1) := ((Below.refl _ _).alloc (Nat.le_refl _) _).trans (hb.mono (by simp))
  clear hr hg hb
  go_wp2_with fail
  refine (put_any [] none 0 0 0 258 3 w1 (Byt.nil _ _ _) (by decide) (Nat.zero_le _) (by decide) (by decide)).mono ?_
  rw [put_258]
  rintro e w2 ⟨A2, c2, rfl, hown, hbel⟩
  have HR2 := Lib.hid (HR.out.below hbel HR.out.lt)
  have HB2 := Lib.hid (HB.out.trans (hbel.mono HB.out.size))
  clear hown hbel
  go_wp2_with fail
  refine (num_ok g 2 [1, 2, 3] w2 HR2.out (by decide) (by decide) (by decide)).mono ?_
  rintro e w3 ⟨rfl, hr, hgr, hsz⟩
  have HR3 : Hid (Rdr w3 g [3] false) := hr
  have HB3 := Lib.hid (HB2.out.trans (only_below hgr HG.out HB2.out.size))
  clear hr hgr hsz
  go_wp2_with (first
    | (go_at_call 24; refine (ok_any g [3] false w3 HR3.out).mono ?_; rintro e w' ⟨rfl, rfl⟩)
    | (go_at_call 25; refine (rest_any g [3] false w3 HR3.out).mono ?_; rintro e w' ⟨rfl, rfl⟩))
  go_ret
  exact ⟨rfl, HB3.out⟩
end Go.Proofs.Ytmbelomekihdkaa
