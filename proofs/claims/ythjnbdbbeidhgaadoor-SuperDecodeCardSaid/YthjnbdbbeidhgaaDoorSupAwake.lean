/- The walks of Short and Awake of superblocks; SuperValid; SuperApart (tools/mksuplaw.py). -/
import Derived.Test.YthjnbdbbeidhgaaDoorSupDec
import Derived.Test.YthjnbdbbeidhgaaDoorSupRefVal
import Derived.Test.YthjnbdbbeidhgaaDoorFrameLaw
import Derived.Deep.RegionLaw
namespace Go.Proofs.YthjnbdbbeidhgaaDoor
open Go.RowKit

theorem slen (n k : Nat) : ∃ m, ((n ≤ k ∧ m = n) ∨ (k < n ∧ m = k)) ∧ m ≤ n ∧ m ≤ k := by
  by_cases h : n ≤ k
  · exact ⟨n, .inl ⟨h, rfl⟩, by omega, by omega⟩
  · exact ⟨k, .inr ⟨by omega, rfl⟩, by omega, by omega⟩
set_option maxHeartbeats 4000000 in
theorem sshort_any (g p m t n a1 b1 c1 d1 a2 b2 c2 d2 : Int) (A : Option Addr) (k c mk : Nat) (hk : k ≤ c) (hc : c ≤ 9223372036854775807) (hmk : (k ≤ 4 ∧ mk = k) ∨ (4 < k ∧ mk = 4)) (w : World) :
    Calls Tryd.prog 18 #[.agg #[.int .i64 g, .int .i64 p, .int .i64 m, .int .i64 t, .int .i64 n, .int .i64 a1, .int .i64 b1, .int .i64 c1, .int .i64 d1, .int .i64 a2, .int .i64 b2, .int .i64 c2, .int .i64 d2, .slice A k c]] w fun e w' => e = .returned (.agg #[.int .i64 g, .int .i64 p, .int .i64 m, .int .i64 t, .int .i64 n, .int .i64 a1, .int .i64 b1, .int .i64 c1, .int .i64 d1, .int .i64 a2, .int .i64 b2, .int .i64 c2, .int .i64 d2, .slice A mk c]) ∧ Below w.heap.size w w' := by
  rcases hmk with ⟨h1, rfl⟩ | ⟨h1, rfl⟩
  · have h1' : (mk : Int) ≤ 4 := by omega
    have h3' : (mk : Int) ≤ (c : Int) := by omega
    go_enter Tryd.func18, Tryd.ntmps18
    go_wp2
    refine bodyPost_ret (v := .agg #[.int .i64 g, .int .i64 p, .int .i64 m, .int .i64 t, .int .i64 n, .int .i64 a1, .int .i64 b1, .int .i64 c1, .int .i64 d1, .int .i64 a2, .int .i64 b2, .int .i64 c2, .int .i64 d2, .slice A mk c]) (by simp [results, Tryd.results18, go_sem, *]; omega) rfl ?_
    exact ⟨rfl, by (repeat (first | with_reducible exact Below.refl _ _ | with_reducible refine Below.setCell ?_ (by first | (simp; done) | (simp; omega) | omega) _ | with_reducible refine Below.alloc ?_ (by first | (simp; done) | (simp; omega) | omega) _))⟩
  · have h1' : (4 : Int) < (k : Int) := by omega
    have h3' : (4 : Int) ≤ (c : Int) := by omega
    go_enter Tryd.func18, Tryd.ntmps18
    go_wp2
    refine bodyPost_ret (v := .agg #[.int .i64 g, .int .i64 p, .int .i64 m, .int .i64 t, .int .i64 n, .int .i64 a1, .int .i64 b1, .int .i64 c1, .int .i64 d1, .int .i64 a2, .int .i64 b2, .int .i64 c2, .int .i64 d2, .slice A 4 c]) (by simp [results, Tryd.results18, go_sem, *]; omega) rfl ?_
    exact ⟨rfl, by (repeat (first | with_reducible exact Below.refl _ _ | with_reducible refine Below.setCell ?_ (by first | (simp; done) | (simp; omega) | omega) _ | with_reducible refine Below.alloc ?_ (by first | (simp; done) | (simp; omega) | omega) _))⟩

set_option maxRecDepth 100000 in
set_option maxHeartbeats 8000000 in
theorem sAwake_any (w : World) (ht : TabAt w) (h0 : 0 < w.heap.size) : Calls Tryd.prog 21 #[] w fun e w' => e = .returned (.bool true) ∧ Below w.heap.size w w' := by
  have HT : Hid (∀ w', Below w.heap.size w w' → TabAt w' ∧ 0 < w'.heap.size) := fun w' hw => ⟨ht.below hw h0, Nat.lt_of_lt_of_le h0 hw.size⟩
  have j0 : I64 0 := by unfold I64; omega
  have j1 : I64 1 := by unfold I64; omega
  have j3 : I64 3 := by unfold I64; omega
  have j4 : I64 4 := by unfold I64; omega
  have hv : svalid ⟨1, 1, 0, 0, 0, ⟨1, 1, 4, 4⟩, ⟨0, 0, 0, 0⟩, []⟩ = true := by decide
  have hm : may 3 0 1 = true := by decide
  obtain ⟨fr, hfr⟩ : ∃ fr, sencF ⟨1, 1, 0, 0, 0, ⟨1, 1, 4, 4⟩, ⟨0, 0, 0, 0⟩, []⟩ 1 = fr := ⟨_, rfl⟩
  have hl : fr.length = 64 := by rw [← hfr]; exact sencF_len _ _
  have h3 : fr[0]? = some 3 := by rw [← hfr]; rfl
  have hle : sencS ⟨1, 1, 0, 0, 0, ⟨1, 1, 4, 4⟩, ⟨0, 0, 0, 0⟩, []⟩ 1 = (fr, 0) := by rw [sencS_ok hv hm, hfr]
  have hld : sdecW sread 1 fr = some ⟨1, 1, 0, 0, 0, ⟨1, 1, 4, 4⟩, ⟨0, 0, 0, 0⟩, []⟩ := by rw [← hfr]; exact sdec_enc hv hm
  have EN : Hid (∀ wx, Below w.heap.size w wx → Calls Tryd.prog 19 #[.agg #[.int .i64 1, .int .i64 1, .int .i64 0, .int .i64 0, .int .i64 0, .int .i64 1, .int .i64 1, .int .i64 4, .int .i64 4, .int .i64 0, .int .i64 0, .int .i64 0, .int .i64 0, .slice none 0 0], .int .i64 1] wx fun e w' => ∃ g1 c1, e = .returned (.tuple #[.slice (some ⟨g1, 0, none⟩) 64 c1, .int .i64 0]) ∧ Byt w' w'.heap.size (some ⟨g1, 0, none⟩) 64 fr ∧ 64 ≤ c1 ∧ c1 ≤ 9223372036854775807 ∧ g1 < w'.heap.size ∧ w'.cell? ⟨g1, 0, none⟩ = some (.int .u8 3) ∧ Below wx.heap.size wx w') := fun wx hb => by
    refine (sencode_any 1 1 0 0 0 1 1 4 4 0 0 0 0 1 [] none 0 0 0 wx (LAt.nil _ _ _) (by omega) (by omega) (by omega) (fun l h => by cases h) j1 j1 j4 j4 j0 j0 j0 j0 (HT.out _ hb).1 (HT.out _ hb).2 (fr, 0) hle).mono ?_
    rintro e w' ⟨A1, c1, rfl, hown, hbel⟩
    simp only at hown ⊢
    rw [hl] at hown ⊢
    obtain ⟨g1, rfl⟩ := hown.head (by decide)
    obtain ⟨_, _, he, q1, q2⟩ := hown.form
    injection he with _ _ he
    subst he
    obtain ⟨ad, x, e, _, hx, hc⟩ := hown.byt.get (show 0 < 64 by decide)
    injection e with e
    subst e
    rw [h3] at hx
    injection hx with hx
    subst hx
    exact ⟨g1, c1, rfl, hown.byt, q1, q2, hown.lt rfl, by simpa [Addr.add] using hc, hbel⟩
  have DE : Hid (∀ wx g1 c1, Below w.heap.size w wx → Byt wx wx.heap.size (some ⟨g1, 0, none⟩) 64 fr → 64 ≤ c1 → c1 ≤ 9223372036854775807 → Calls Tryd.prog 22 #[.slice (some ⟨g1, 0, none⟩) 64 c1, .int .i64 1] wx fun e w' => ∃ A2 k2 c2, e = .returned (.tuple #[.agg #[.int .i64 1, .int .i64 1, .int .i64 0, .int .i64 0, .int .i64 0, .int .i64 1, .int .i64 1, .int .i64 4, .int .i64 4, .int .i64 0, .int .i64 0, .int .i64 0, .int .i64 0, .slice A2 k2 c2], .bool true]) ∧ Below wx.heap.size wx w') := fun wx g1 c1 hb hby h1 h2 => by
    refine (sdecode_any 1 fr (some ⟨g1, 0, none⟩) 64 c1 wx.heap.size wx (HT.out _ hb).1 (HT.out _ hb).2 hby h1 h2 (Nat.le_refl _) _ hld).mono ?_
    rintro e w' ⟨A2, k2, c2, rfl, _, _, _, hbel⟩
    exact ⟨A2, k2, c2, rfl, hbel⟩
  have VA : Hid (∀ wx, Calls Tryd.prog 28 #[.agg #[.int .i64 1, .int .i64 1, .int .i64 0, .int .i64 0, .int .i64 0, .int .i64 1, .int .i64 1, .int .i64 4, .int .i64 4, .int .i64 0, .int .i64 0, .int .i64 0, .int .i64 0, .slice none 0 0]] wx fun e w' => e = .returned (.bool true) ∧ Below wx.heap.size wx w') := fun wx => svalid_any 1 1 0 0 0 1 1 4 4 0 0 0 0 [] none 0 0 0 wx (LAt.nil _ _ _) (by omega) (by omega) (fun l h => by cases h) j1 j1 j4 j4 j0 j0 j0 j0 true hv
  have FO : Hid (∀ wx, Calls Tryd.prog 26 #[.agg #[.int .i64 1, .int .i64 1, .int .i64 3, .int .i64 4]] wx fun e w' => e = .returned (.bool false) ∧ Below wx.heap.size wx w') := fun wx => form_any 1 1 3 4 j1 j1 j3 j4 wx
  have HB0 : Hid (Below w.heap.size w (w.alloc (.cells #[.int .i64 1, .int .i64 1, .int .i64 0, .int .i64 0, .int .i64 0, .int .i64 1, .int .i64 1, .int .i64 4, .int .i64 4, .int .i64 0, .int .i64 0, .int .i64 0, .int .i64 0, .slice none 0 0] 41))) := (Below.refl _ _).alloc (Nat.le_refl _) _
  have HX0 := Lib.hid (Cells.new w 41 #[.int .i64 1, .int .i64 1, .int .i64 0, .int .i64 0, .int .i64 0, .int .i64 1, .int .i64 1, .int .i64 4, .int .i64 4, .int .i64 0, .int .i64 0, .int .i64 0, .int .i64 0, .slice none 0 0])
  clear ht h0 hv hm hfr hl h3 hle hld j0 j1 j3 j4
  go_enter Tryd.func21, Tryd.ntmps21
  go_wp2_with (first
    | (go_at_call 19; refine (EN.out _ HB0.out).mono ?_; rintro e w1 ⟨g1, c1, rfl, hby, q1, q2, q3, hc, hbel⟩; have HY1 := Lib.hid hby; have HQ := Lib.hid (And.intro q1 q2); have HC1 := Lib.hid hc; have hg1 := q3; have HB1 := Lib.hid (HB0.out.trans (hbel.mono HB0.out.size)); have HX1 := Lib.hid (HX0.out.below hbel (by simp)); have hXl := HX1.out.lt; clear hby q1 q2 q3 hc hbel)
    | (go_at_call 22; refine (DE.out _ g1 c1 HB1.out HY1.out HQ.out.1 HQ.out.2).mono ?_; rintro e w2 ⟨A2, k2, c2, rfl, hbel⟩; have HB2 := Lib.hid (HB1.out.trans (hbel.mono HB1.out.size)); have HX2 := Lib.hid (HX1.out.below hbel hXl); have hc0 : w2.cell? ⟨g1, 0, none⟩ = some (.int .u8 3) := (hbel.cell (p := ⟨g1, 0, none⟩) hg1).trans HC1.out; have hg2 : g1 < w2.heap.size := Nat.lt_of_lt_of_le hg1 hbel.size; have hX2 : w.heap.size < w2.heap.size := Nat.lt_of_lt_of_le hXl hbel.size; have m0 := HX2.out 0 _ rfl; have m1 := HX2.out 1 _ rfl; have m2 := HX2.out 2 _ rfl; have m3 := HX2.out 3 _ rfl; have m4 := HX2.out 4 _ rfl; have m5 := HX2.out 5 _ rfl; have m6 := HX2.out 6 _ rfl; have m7 := HX2.out 7 _ rfl; have m8 := HX2.out 8 _ rfl; have m9 := HX2.out 9 _ rfl; have m10 := HX2.out 10 _ rfl; have m11 := HX2.out 11 _ rfl; have m12 := HX2.out 12 _ rfl; have m13 := HX2.out 13 _ rfl; clear hbel)
    | (go_at_call 28; refine (VA.out _).mono ?_; rintro e w3 ⟨rfl, hbel⟩; have HB3 : Hid (Below w.heap.size w w3) := (HB2.out.alloc HB2.out.size _).trans (hbel.mono (HB2.out.alloc HB2.out.size (.cells #[.int .i64 1, .int .i64 1, .int .i64 0, .int .i64 0, .int .i64 0, .int .i64 1, .int .i64 1, .int .i64 4, .int .i64 4, .int .i64 0, .int .i64 0, .int .i64 0, .int .i64 0, .slice A2 k2 c2] 41)).size); clear hbel)
    | (go_at_call 26; refine (FO.out _).mono ?_; rintro e w4 ⟨rfl, hbel⟩; have HB4 : Hid (Below w.heap.size w w4) := HB3.out.trans (hbel.mono HB3.out.size); clear hbel))
  go_ret
  exact ⟨rfl, HB4.out⟩
end Go.Proofs.YthjnbdbbeidhgaaDoor
