/- The walk of the reference's Decode of superblocks (tools/mksuprdec.py): the joint. -/
import Derived.Test.YthjnbdbbeidhgaaDoorSupRDec0
import Derived.Test.YthjnbdbbeidhgaaDoorSupRDec1
import Derived.Test.YthjnbdbbeidhgaaDoorSupRDec2
namespace Go.Proofs.YthjnbdbbeidhgaaDoor
open Go.RowKit Go.Sort

set_option maxRecDepth 100000 in
set_option maxHeartbeats 64000000 in
theorem srdecode_any (t : Int) (bs : List UInt8) (A : Option Addr) (n cap B : Nat) (w : World) (hb : Byt w B A n bs) (hn : n ≤ cap) (hcap : cap ≤ 9223372036854775807) (hB : B ≤ w.heap.size) (r : Option Su) (hr : sdecW sreadR t bs = r) :
    Calls Tryd.prog 25 #[.slice A n cap, .int .i64 t] w (SDecResR r w) := by
  have HB' := hB
  have hb' := hb
  have HY : Hid (∀ w', Below w.heap.size w w' → Byt w' w.heap.size A n bs) := fun w' hw => (hb.more hB).below hw
  have HB0 : Hid (∀ o, Below w.heap.size w (w.alloc o)) := fun o => (Below.refl _ _).alloc (Nat.le_refl _) _
  clear hb hB
  cases hd : dec 3 0 t bs with
  | none =>
    obtain rfl : r = none := by rw [← hr, sdec_none hd]
    have HD := Lib.hid hd
    clear hr hd
    go_enter Tryd.func25, Tryd.ntmps25
    go_wp2_with fail
    refine (refDecode_any 3 0 t bs A n cap w.heap.size _ (HY.out _ (HB0.out _)) hn hcap (by simp) (by decide) none HD.out).mono ?_
    rintro e w1 ⟨A1, c1, rfl, hown, hbel⟩
    obtain ⟨hcc, hcf⟩ := cells_of_below hbel
    have HB1 : Hid (Below w.heap.size w w1) := (HB0.out _).trans (hbel.mono (by simp))
    have hw1 : w.heap.size < w1.heap.size := by have := hbel.size; simp at this; omega
    simp only [Option.getD_none, Option.isSome_none, List.length_nil]
    clear hown hbel
    go_wp2
    refine bodyPost_ret (v := .tuple #[.agg #[.int .i64 0, .int .i64 0, .int .i64 0, .int .i64 0, .int .i64 0, .int .i64 0, .int .i64 0, .int .i64 0, .int .i64 0, .int .i64 0, .int .i64 0, .int .i64 0, .int .i64 0, .slice none 0 0], .bool false]) (by simp [results, Tryd.results25, go_sem, *]) rfl ?_
    exact ⟨none, 0, 0, rfl, LAt.nil _ _ _, by omega, by omega, (by repeat (first | with_reducible exact HB1.out | with_reducible refine Below.setCell ?_ (by first | (simp; done) | (simp; omega) | omega) _)), (fun ad e => by cases e)⟩
  | some p =>
    have hpl : p.length = 59 := by obtain ⟨_, hl, rfl, _⟩ := dec_some hd; exact pay_len hl
    obtain ⟨b35, hb35⟩ : ∃ x, p[35]? = some x := ⟨_, List.getElem?_eq_getElem (by omega)⟩
    rcases Nat.lt_or_ge b35.toNat 1 with h | h
    · exact srdecode_0 t bs A n cap B w hb' hn hcap HB' r hr p hd b35 hb35 (by omega)
    · rcases Nat.lt_or_ge b35.toNat 2 with h2 | h2
      · exact srdecode_1 t bs A n cap B w hb' hn hcap HB' r hr p hd b35 hb35 (by omega)
      · exact srdecode_2 t bs A n cap B w hb' hn hcap HB' r hr p hd b35 hb35 h2
end Go.Proofs.YthjnbdbbeidhgaaDoor
