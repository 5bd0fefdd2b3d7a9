/- RegionScript: the walk (tools/mkrscript.py). -/
import Derived.Test.YthgpmnblkhehkaaDoorRegionScriptMid
import Derived.Test.YthgpmnblkhehkaaDoorSame
import Derived.Deep.CutBlock
namespace Go.Proofs.YthgpmnblkhehkaaDoor
open Go.RowKit Go.Sort

theorem and31 (x : Int) : ∃ k : Nat, k ≤ 31 ∧ bits .and .i64 x 31 = (k : Int) := by
  have h3 : (BitVec.ofInt 64 x &&& BitVec.ofInt 64 31).toNat ≤ 31 := by
    rw [BitVec.toNat_and]
    exact Nat.le_trans Nat.and_le_right (by decide)
  refine ⟨_, h3, ?_⟩
  show IntKind.i64.wrap ((BitVec.ofInt 64 x &&& BitVec.ofInt 64 31).toNat : Int) = _
  exact IntWalk.i64_in _ (by omega)
theorem and3n (x : Int) : ∃ k : Nat, k ≤ 3 ∧ bits .and .i64 x 3 = (k : Int) := by
  rcases and3 x with h | h | h | h
  · exact ⟨0, by decide, h⟩
  · exact ⟨1, by decide, h⟩
  · exact ⟨2, by decide, h⟩
  · exact ⟨3, by decide, h⟩
theorem script_facts {b c : Int} {k : Nat} (hk : k ≤ 3) (hb : b = 1 ∨ b = 2) (hc : c = 2 ∨ c = 4 ∨ c = 8 ∨ c = 16) : omay 3 b c 4 ⟨b, (k : Int), 3, 7, 3, 9⟩ = 0 ∧ capS 3 b c 4 = (c - 1) * 59 ∧ form 3 b c 4 = true := by
  obtain rfl | rfl | rfl | rfl : k = 0 ∨ k = 1 ∨ k = 2 ∨ k = 3 := by omega
  all_goals rcases hb with rfl | rfl <;> rcases hc with rfl | rfl | rfl | rfl <;> decide
theorem mlen2 (n k : Nat) : ∃ m, ((n ≤ k ∧ m = n) ∨ (k < n ∧ m = k)) ∧ m ≤ n ∧ m ≤ k := by
  by_cases h : n ≤ k
  · exact ⟨n, .inl ⟨h, rfl⟩, by omega, by omega⟩
  · exact ⟨k, .inr ⟨by omega, rfl⟩, by omega, by omega⟩
/-- The first statement: what has come up (bb), what the temporaries hold (v). -/
structure R1s (w0 : World) (g0 : Nat) (ve lo fu b : Int) (cn : Nat) (Ao : Option Addr) (no co : Nat) (bb : Nat → Bool) (v : Nat → Value) (w : World) : Prop where
  bel : Below w0.heap.size w0 w
  s0 : bb 0 = true → v 0 = .pointer (some ⟨g0, 0, none⟩)
  s1 : bb 1 = true → v 1 = .int .i64 ve
  s2 : bb 2 = true → v 2 = .pointer (some ⟨g0, 1, none⟩)
  s3 : bb 3 = true → v 3 = .int .i64 lo
  s4 : bb 4 = true → v 4 = .agg #[.int .i64 3, .int .i64 b, .int .i64 (cn : Int), .int .i64 4]
  s5 : bb 5 = true → v 5 = .pointer (some ⟨g0, 3, none⟩)
  s6 : bb 6 = true → v 6 = .slice Ao no co
  s7 : bb 7 = true → v 7 = .pointer (some ⟨g0, 4, none⟩)
  s8 : bb 8 = true → v 8 = .int .i64 fu
  s11 : bb 11 = true → v 11 = .slice Ao no co
  s12 : bb 12 = true → v 12 = .int .i64 fu
  o9 : bb 9 = true → ∃ g, v 9 = .pointer (some ⟨g, 0, none⟩) ∧ w0.heap.size ≤ g ∧ Soft w g ∧ g < w.heap.size ∧ ∃ x0 x1 x2 x3, Cells w g [x0, x1, x2, x3]
  o10 : bb 10 = true → ∃ g, v 9 = .pointer (some ⟨g, 0, none⟩) ∧ w0.heap.size ≤ g ∧ Cells w g [.int .i64 3, .int .i64 b, .int .i64 (cn : Int), .int .i64 4]
theorem R1s.later {w0 w w' : World} {g0 : Nat} {ve lo fu b : Int} {cn : Nat} {Ao : Option Addr} {no co : Nat} {bb : Nat → Bool} {v : Nat → Value} (h : R1s w0 g0 ve lo fu b cn Ao no co bb v w) (hb : Below w.heap.size w w') : R1s w0 g0 ve lo fu b cn Ao no co bb v w' :=
  { h with
    bel := h.bel.trans (hb.mono h.bel.size)
    o9 := fun e => let ⟨g, q1, q2, q3, q4, x0, x1, x2, x3, q5⟩ := h.o9 e; ⟨g, q1, q2, q3.same (hb.block g q4), Nat.lt_of_lt_of_le q4 hb.size, x0, x1, x2, x3, q5.below hb q4⟩
    o10 := fun e => let ⟨g, q1, q2, q3⟩ := h.o10 e; ⟨g, q1, q2, q3.below hb q3.lt⟩ }

structure R34s (w0 : World) (q q2 p2 n sl cn : Nat) (b cp rm : Int) (A2 : Option Addr) (cap2 : Nat) (bb : Nat → Bool) (v : Nat → Value) (w : World) : Prop where
  bel : Below w0.heap.size w0 w
  s0 : bb 0 = true → v 0 = .bool true
  s1 : bb 1 = true → v 1 = .bool true
  s2 : bb 2 = true → v 2 = .pointer (some ⟨q, 0, none⟩)
  s3 : bb 3 = true → v 3 = .agg #[.int .i64 b, .int .i64 (sl : Int), .int .i64 3, .int .i64 7, .int .i64 3, .int .i64 9]
  s4 : bb 4 = true → v 4 = .agg #[.int .i64 b, .int .i64 (sl : Int), .int .i64 3, .int .i64 7, .int .i64 3, .int .i64 9]
  s5 : bb 5 = true → v 5 = .bool true
  s6 : bb 6 = true → v 6 = .bool true
  s7 : bb 7 = true → v 7 = .bool true
  s8 : bb 8 = true → v 8 = .pointer (some ⟨q, 0, none⟩)
  s9 : bb 9 = true → v 9 = .int .i64 rm
  s10 : bb 10 = true → v 10 = .agg #[.int .i64 3, .int .i64 b, .int .i64 (cn : Int), .int .i64 4]
  s11 : bb 11 = true → v 11 = .int .i64 cp
  s12 : bb 12 = true → v 12 = .pointer (some ⟨q2, 0, none⟩)
  s13 : bb 13 = true → v 13 = .pointer (some ⟨q2, 0, none⟩)
  s14 : bb 14 = true → v 14 = .pointer (some ⟨q2, 7, none⟩)
  s15 : bb 15 = true → v 15 = .pointer (some ⟨p2, 0, none⟩)
  s16 : bb 16 = true → v 16 = .pointer (some ⟨p2, 0, none⟩)
  s17 : bb 17 = true → v 17 = .pointer (some ⟨p2, 6, none⟩)
  s18 : bb 18 = true → v 18 = .slice A2 n cap2
  s19 : bb 19 = true → v 19 = .int .i64 (n : Int)
  s20 : bb 20 = true → v 20 = .int .i64 rm
  s21 : bb 21 = true → v 21 = .bool true
  s22 : bb 22 = true → v 22 = .bool true
  s23 : bb 23 = true → v 23 = .bool true
structure R20s (w0 : World) (gO q q2 p2 m n k : Nat) (off mm : Int) (A2 : Option Addr) (cap2 : Nat) (seg : List UInt8) (B1 B2 B3 B4 P2 P3 P4 : Bool) (bb : Nat → Bool) (v : Nat → Value) (w : World) : Prop where
  bel : Below w0.heap.size w0 w
  s0 : bb 0 = true → v 0 = .pointer (some ⟨gO, 5, none⟩)
  s1 : bb 1 = true → v 1 = .int .i64 off
  s2 : bb 2 = true → v 2 = .bool B1
  s3 : bb 3 = true → v 3 = .bool B1
  s4 : bb 4 = true → B1 = true → v 4 = .pointer (some ⟨gO, 6, none⟩)
  s5 : bb 5 = true → B1 = true → v 5 = .int .i64 mm
  s6 : bb 6 = true → B1 = true → v 6 = .bool B2
  s7 : bb 7 = true → v 7 = .bool P2
  s8 : bb 8 = true → v 8 = .bool P2
  s9 : bb 9 = true → P2 = true → v 9 = .pointer (some ⟨gO, 5, none⟩)
  s10 : bb 10 = true → P2 = true → v 10 = .int .i64 off
  s11 : bb 11 = true → P2 = true → v 11 = .pointer (some ⟨q2, 0, none⟩)
  s12 : bb 12 = true → P2 = true → v 12 = .pointer (some ⟨q2, 0, none⟩)
  s13 : bb 13 = true → P2 = true → v 13 = .pointer (some ⟨q2, 7, none⟩)
  s14 : bb 14 = true → P2 = true → v 14 = .pointer (some ⟨p2, 0, none⟩)
  s15 : bb 15 = true → P2 = true → v 15 = .pointer (some ⟨p2, 0, none⟩)
  s16 : bb 16 = true → P2 = true → v 16 = .pointer (some ⟨p2, 6, none⟩)
  s17 : bb 17 = true → P2 = true → v 17 = .slice A2 n cap2
  s18 : bb 18 = true → P2 = true → v 18 = .int .i64 (n : Int)
  s19 : bb 19 = true → P2 = true → v 19 = .bool B3
  s20 : bb 20 = true → v 20 = .bool P3
  s21 : bb 21 = true → v 21 = .bool P3
  s22 : bb 22 = true → P3 = true → v 22 = .pointer (some ⟨gO, 6, none⟩)
  s23 : bb 23 = true → P3 = true → v 23 = .int .i64 mm
  s24 : bb 24 = true → P3 = true → v 24 = .pointer (some ⟨q2, 0, none⟩)
  s25 : bb 25 = true → P3 = true → v 25 = .pointer (some ⟨q2, 0, none⟩)
  s26 : bb 26 = true → P3 = true → v 26 = .pointer (some ⟨q2, 7, none⟩)
  s27 : bb 27 = true → P3 = true → v 27 = .pointer (some ⟨p2, 0, none⟩)
  s28 : bb 28 = true → P3 = true → v 28 = .pointer (some ⟨p2, 0, none⟩)
  s29 : bb 29 = true → P3 = true → v 29 = .pointer (some ⟨p2, 6, none⟩)
  s30 : bb 30 = true → P3 = true → v 30 = .slice A2 n cap2
  s31 : bb 31 = true → P3 = true → v 31 = .int .i64 (n : Int)
  s32 : bb 32 = true → P3 = true → v 32 = .pointer (some ⟨gO, 5, none⟩)
  s33 : bb 33 = true → P3 = true → v 33 = .int .i64 off
  s34 : bb 34 = true → P3 = true → v 34 = .int .i64 ((n : Int) - off)
  s35 : bb 35 = true → P3 = true → v 35 = .bool B4
  s36 : bb 36 = true → v 36 = .bool P4
  s37 : bb 37 = true → v 37 = .bool P4
  s38 : bb 38 = true → P4 = true → v 38 = .pointer (some ⟨m, 0, none⟩)
  s39 : bb 39 = true → P4 = true → v 39 = .pointer (some ⟨m, 0, none⟩)
  s40 : bb 40 = true → P4 = true → v 40 = .pointer (some ⟨m, 5, none⟩)
  s41 : bb 41 = true → P4 = true → v 41 = .bool false
  s42 : bb 42 = true → P4 = true → v 42 = .bool true
  s43 : bb 43 = true → v 43 = .bool P4
  s44 : bb 44 = true → v 44 = .bool P4
  s45 : bb 45 = true → P4 = true → v 45 = .pointer (some ⟨q, 0, none⟩)
  s46 : bb 46 = true → P4 = true → v 46 = .pointer (some ⟨gO, 5, none⟩)
  s47 : bb 47 = true → P4 = true → v 47 = .int .i64 off
  s48 : bb 48 = true → P4 = true → v 48 = .pointer (some ⟨gO, 6, none⟩)
  s49 : bb 49 = true → P4 = true → v 49 = .int .i64 mm
  s51 : bb 51 = true → P4 = true → v 51 = .pointer (some ⟨q2, 0, none⟩)
  s52 : bb 52 = true → P4 = true → v 52 = .pointer (some ⟨q2, 0, none⟩)
  s53 : bb 53 = true → P4 = true → v 53 = .pointer (some ⟨q2, 7, none⟩)
  s54 : bb 54 = true → P4 = true → v 54 = .pointer (some ⟨p2, 0, none⟩)
  s55 : bb 55 = true → P4 = true → v 55 = .pointer (some ⟨p2, 0, none⟩)
  s56 : bb 56 = true → P4 = true → v 56 = .pointer (some ⟨p2, 6, none⟩)
  s57 : bb 57 = true → P4 = true → v 57 = .slice A2 n cap2
  s58 : bb 58 = true → P4 = true → v 58 = .pointer (some ⟨gO, 5, none⟩)
  s59 : bb 59 = true → P4 = true → v 59 = .int .i64 off
  s60 : bb 60 = true → P4 = true → v 60 = .pointer (some ⟨gO, 5, none⟩)
  s61 : bb 61 = true → P4 = true → v 61 = .int .i64 off
  s62 : bb 62 = true → P4 = true → v 62 = .pointer (some ⟨gO, 6, none⟩)
  s63 : bb 63 = true → P4 = true → v 63 = .int .i64 mm
  s64 : bb 64 = true → P4 = true → v 64 = .int .i64 (off + mm)
  s66 : bb 66 = true → P4 = true → v 66 = .bool true
  s67 : bb 67 = true → P4 = true → v 67 = .bool false
  s68 : bb 68 = true → v 68 = .bool false
  o50 : bb 50 = true → P4 = true → ∃ A1 c1, v 50 = .slice A1 k c1 ∧ Byt w w.heap.size A1 k seg
  o65 : bb 65 = true → P4 = true → ∃ A3 c3, v 65 = .slice A3 k c3 ∧ ∀ wx, Below w0.heap.size w0 wx → Byt wx wx.heap.size A3 k seg
theorem R20s.later {w0 w w' : World} {gO q q2 p2 m n k : Nat} {off mm : Int} {A2 : Option Addr} {cap2 : Nat} {seg : List UInt8} {B1 B2 B3 B4 P2 P3 P4 : Bool} {bb : Nat → Bool} {v : Nat → Value} (h : R20s w0 gO q q2 p2 m n k off mm A2 cap2 seg B1 B2 B3 B4 P2 P3 P4 bb v w) (hb : Below w.heap.size w w') : R20s w0 gO q q2 p2 m n k off mm A2 cap2 seg B1 B2 B3 B4 P2 P3 P4 bb v w' :=
  { h with
    bel := h.bel.trans (hb.mono h.bel.size)
    o50 := fun e e2 => let ⟨A1, c1, q1, q2⟩ := h.o50 e e2; ⟨A1, c1, q1, (q2.below hb).more hb.size⟩ }

set_option maxRecDepth 100000 in
set_option maxHeartbeats 16000000 in
theorem regScript_any (ve lo slv fu : Int) (Ao : Option Addr) (no co : Nat) (os : List Op7) (w : World) (ht : TabAt w) (h0 : 0 < w.heap.size) (hos : OAt w w.heap.size Ao no os) (hno : no ≤ 9223372036854775807) :
    Calls Tryd.prog 5 #[.agg #[.int .i64 ve, .int .i64 lo, .int .i64 slv, .slice Ao no co, .int .i64 fu]] w fun e w' => e = .returned (.bool true) ∧ Below w.heap.size w w' := by
  have HSZ := Lib.hid h0
  have HT : Hid (∀ w', Below w.heap.size w w' → TabAt w') := fun w' hb => ht.below hb h0
  have HOS := Lib.hid hos
  obtain ⟨b, c, hb, hc, hly⟩ := layout_any ve lo
  have LY := Lib.hid hly
  obtain ⟨sl, hsl, hsl2⟩ := and3n slv
  obtain ⟨fk, hfk, hfk2⟩ := and31 fu
  obtain ⟨hom, hcap, hfm⟩ := script_facts hsl hb hc
  have AW := Lib.hid (fun w' (hb : Below w.heap.size w w') => regAwake_any w' (ht.below hb h0) (Nat.lt_of_lt_of_le h0 hb.size))
  have hb2 : 1 ≤ b ∧ b ≤ 2 := by omega
  have hc2 : 2 ≤ c ∧ c ≤ 16 := by omega
  obtain ⟨cn, rfl⟩ : ∃ cn : Nat, c = cn := ⟨c.toNat, by omega⟩
  have NW := Lib.hid (fun w => dnew_any (74 + 4 * cn) (by omega) (by omega) w)
  have BL := Lib.hid (fun w => rblank_any (74 + 4 * cn) (by omega) (by omega) w)
  have e74 : ((74 + 4 * cn : Nat) : Int) = 74 + 4 * (cn : Int) := by push_cast; rfl
  rw [e74] at NW BL
  obtain ⟨S, hS⟩ : ∃ S, 74 + 4 * cn = S := ⟨_, rfl⟩
  rw [hS] at NW BL
  have HSS := Lib.hid hS
  have HX0 := Lib.hid (Cells.new w 52 #[.int .i64 ve, .int .i64 lo, .int .i64 slv, .slice Ao no co, .int .i64 fu])
  have HB0 := Lib.hid (below_alloc w (.cells #[.int .i64 ve, .int .i64 lo, .int .i64 slv, .slice Ao no co, .int .i64 fu] 52))
  have HJ : Hid (I64 3 ∧ I64 b ∧ I64 (cn : Int) ∧ I64 4) := ⟨⟨by decide, by decide⟩, ⟨by omega, by omega⟩, ⟨by omega, by omega⟩, ⟨by decide, by decide⟩⟩
  clear ht h0 hos hly hb hc hS e74
  go_enter Tryd.func5, Tryd.ntmps5
  go_upto_region 1 with fail
  obtain ⟨g0, hg0⟩ : ∃ g0, w.heap.size = g0 := ⟨_, rfl⟩
  obtain ⟨wa, hwa⟩ : ∃ wa, w.alloc (.cells #[.int .i64 ve, .int .i64 lo, .int .i64 slv, .slice Ao no co, .int .i64 fu] 52) = wa := ⟨_, rfl⟩
  have HGA : Hid (g0 < wa.heap.size) := by show g0 < _; rw [← hwa, ← hg0]; simp
  rw [hwa] at HB0 HX0 ⊢
  rw [hg0] at HX0 ⊢
  have HG0 := Lib.hid hg0
  clear hwa hg0
  go_cut [3, 4, 5] (fun x y z wx => ∃ g : Nat, x = .pointer (some ⟨g, 0, none⟩) ∧ y = .slice Ao no co ∧ z = .int .i64 fu ∧ wa.heap.size ≤ g ∧ Cells wx g [.int .i64 3, .int .i64 b, .int .i64 (cn : Int), .int .i64 4] ∧ Below wa.heap.size wa wx)
  case first =>
    refine wp_region_inv (F := ?F) (R1s wa g0 ve lo fu b cn Ao no co) id ?hF1 (by kernel_rfl) (by kernel_rfl) ?ha1 ?h01 ?hs1 ?hfin1
    case hF1 =>
      intro v
      simp only [putsAll, Act.put, List.setIfInBounds_toArray, List.set_cons_zero, List.set_cons_succ]
      rfl
    case ha1 =>
      simp only [putsAll, Act.put, List.setIfInBounds_toArray, List.set_cons_zero, List.set_cons_succ]
      rfl
    case h01 =>
      exact { bel := Below.drew (Below.refl _ _), s0 := nofun, s1 := nofun, s2 := nofun, s3 := nofun, s4 := nofun, s5 := nofun, s6 := nofun, s7 := nofun, s8 := nofun, s11 := nofun, s12 := nofun, o9 := nofun, o10 := nofun }
    case hs1 =>
      refine ⟨?_, ?_, ?_, ?_, ?_, ?_, ?_, ?_, ?_, ?_, ?_, ?_, ?_, trivial⟩
      · intro b9 v w9 hR hc hb hp K hK
        (try simp [Region.binds] at hp)
        clear hc
        go_simp
        exact hK (upd v 0 _) _ { hR with s0 := fun _ => rfl }
      · intro b9 v w9 hR hc hb hp K hK
        (try simp [Region.binds] at hp)
        clear hc
        have e0 := hR.s0 (by simp [hp])
        have hbl := hR.bel
        have y := HX0.out.below hbl HX0.out.lt 0 _ rfl
        go_simp
        exact hK (upd (upd v 1 _) 0 _) _ { hR with s1 := fun _ => rfl, s0 := fun _ => rfl }
      · intro b9 v w9 hR hc hb hp K hK
        (try simp [Region.binds] at hp)
        clear hc
        go_simp
        exact hK (upd v 2 _) _ { hR with s2 := fun _ => rfl }
      · intro b9 v w9 hR hc hb hp K hK
        (try simp [Region.binds] at hp)
        clear hc
        have e2 := hR.s2 (by simp [hp])
        have hbl := hR.bel
        have y := HX0.out.below hbl HX0.out.lt 1 _ rfl
        go_simp
        exact hK (upd (upd v 3 _) 2 _) _ { hR with s3 := fun _ => rfl, s2 := fun _ => rfl }
      · intro b9 v w9 hR hc hb hp K hK
        (try simp [Region.binds] at hp)
        clear hc
        have e1 := hR.s1 (by simp [hp])
        have e3 := hR.s3 (by simp [hp])
        have hbl := hR.bel
        go_simp
        go_wp2_with (go_at_call 6; refine (LY.out _).mono ?_; rintro e w6 ⟨rfl, hb6⟩)
        exact hK (upd (upd (upd v 4 _) 1 _) 3 _) _ { R1s.later hR hb6 with bel := hR.bel.trans (hb6.mono hR.bel.size), s4 := fun _ => rfl, s1 := fun _ => rfl, s3 := fun _ => rfl }
      · intro b9 v w9 hR hc hb hp K hK
        (try simp [Region.binds] at hp)
        clear hc
        go_simp
        exact hK (upd v 5 _) _ { hR with s5 := fun _ => rfl }
      · intro b9 v w9 hR hc hb hp K hK
        (try simp [Region.binds] at hp)
        clear hc
        have e5 := hR.s5 (by simp [hp])
        have hbl := hR.bel
        have y := HX0.out.below hbl HX0.out.lt 3 _ rfl
        go_simp
        exact hK (upd (upd v 6 _) 5 _) _ { hR with s6 := fun _ => rfl, s5 := fun _ => rfl }
      · intro b9 v w9 hR hc hb hp K hK
        (try simp [Region.binds] at hp)
        clear hc
        go_simp
        exact hK (upd v 7 _) _ { hR with s7 := fun _ => rfl }
      · intro b9 v w9 hR hc hb hp K hK
        (try simp [Region.binds] at hp)
        clear hc
        have e7 := hR.s7 (by simp [hp])
        have hbl := hR.bel
        have y := HX0.out.below hbl HX0.out.lt 4 _ rfl
        go_simp
        exact hK (upd (upd v 8 _) 7 _) _ { hR with s8 := fun _ => rfl, s7 := fun _ => rfl }
      · intro b9 v w9 hR hc hb hp K hK
        (try simp [Region.binds] at hp)
        have h10 : b9 10 = false := hc.neg (by kernel_rfl) hb
        clear hc
        have hbl := hR.bel
        have hb6 := below_alloc w9 (.cells #[.int .i64 0, .int .i64 0, .int .i64 0, .int .i64 0] 24)
        go_simp
        exact hK (upd v 9 (.pointer (some ⟨w9.heap.size, 0, none⟩))) _ { R1s.later hR hb6 with o9 := fun _ => ⟨_, rfl, hbl.size, Soft.new _ _ _, by simp, _, _, _, _, Cells.new w9 _ _⟩, o10 := fun h => Bool.noConfusion (h10.symm.trans h) }
      · intro b9 v w9 hR hc hb hp K hK
        (try simp [Region.binds] at hp)
        clear hc
        have e4 := hR.s4 (by simp [hp])
        obtain ⟨g, e9, hge, hso, hlt, x0, x1, x2, x3, hcl⟩ := hR.o9 (by simp [hp])
        have f0 := hso 0; have f1 := hso 1; have f2 := hso 2; have f3 := hso 3
        have z0 := hcl 0 _ rfl; have z1 := hcl 1 _ rfl; have z2 := hcl 2 _ rfl; have z3 := hcl 3 _ rfl
        have hbl := hR.bel
        go_simp
        have hcs := (((hcl.set 0 (.int .i64 3)).set 1 (.int .i64 b)).set 2 (.int .i64 (cn : Int))).set 3 (.int .i64 4)
        exact hK (upd (upd v 4 _) 9 _) _ { hR with bel := (((hbl.setCell (by exact hge) _).setCell (by exact hge) _).setCell (by exact hge) _).setCell (by exact hge) _, s4 := fun _ => rfl, o9 := fun _ => ⟨g, rfl, hge, (((hso.set _ _).set _ _).set _ _).set _ _, by simpa [World.setCell] using hlt, _, _, _, _, hcs⟩, o10 := fun _ => ⟨g, rfl, hge, hcs⟩ }
      · intro b9 v w9 hR hc hb hp K hK
        (try simp [Region.binds] at hp)
        clear hc
        have e6 := hR.s6 (by simp [hp])
        go_simp
        exact hK (upd (upd v 11 _) 6 _) _ { hR with s11 := fun _ => rfl, s6 := fun _ => rfl }
      · intro b9 v w9 hR hc hb hp K hK
        (try simp [Region.binds] at hp)
        clear hc
        have e8 := hR.s8 (by simp [hp])
        go_simp
        exact hK (upd (upd v 12 _) 8 _) _ { hR with s12 := fun _ => rfl, s8 := fun _ => rfl }
    case hfin1 =>
      intro b9 v w9 hall hR
      obtain ⟨g, e9, hge, hcl⟩ := hR.o10 (hall 10 (by decide))
      have e11 := hR.s11 (hall 11 (by decide))
      have e12 := hR.s12 (hall 12 (by decide))
      have HX := Lib.hid (And.intro hge (And.intro hcl hR.bel))
      clear hR hall hge hcl
      go_wp2_with fail
      (try go_simp)
      go_meet
      exact ⟨g, rfl, rfl, rfl, HX.out⟩
  case rest =>
    obtain ⟨g, rfl, rfl, rfl, hge, hx, hbel⟩ := hcut
    obtain ⟨w1, hw1⟩ : ∃ x, x = wc := ⟨_, rfl⟩
    subst hw1
    have HGE : Hid (wa.heap.size ≤ g ∧ g < w1.heap.size) := ⟨hge, hx.lt⟩
    have HB1 : Hid (Below w.heap.size w w1) := HB0.out.trans (hbel.mono HB0.out.size)
    have k0 := hx 0 _ rfl; have k1 := hx 1 _ rfl; have k2 := hx 2 _ rfl; have k3 := hx 3 _ rfl
    have y2 := (HX0.out.below hbel HGA.out) 2 _ rfl
    have HX1 := Lib.hid hx
    have w4c : IntKind.i64.wrap (4 * (cn : Int)) = 4 * (cn : Int) := IntWalk.i64_in _ (by omega)
    have w74 : IntKind.i64.wrap (74 + 4 * (cn : Int)) = 74 + 4 * (cn : Int) := IntWalk.i64_in _ (by omega)
    have hglt := HGE.out.2
    clear hge hbel hx HX0 HGA HB0
    go_upto_region 5 with fail
    clear hglt k0 k1 k2 k3 y2
    obtain ⟨gh, hgh⟩ : ∃ gh, w1.heap.size = gh := ⟨_, rfl⟩
    obtain ⟨w2, hw2⟩ : ∃ x, w1.alloc (.cells #[.int .i64 b, .int .i64 (sl : Int), .int .i64 3, .int .i64 7, .int .i64 3, .int .i64 9] 33) = x := ⟨_, rfl⟩
    have hh := Cells.new w1 33 #[.int .i64 b, .int .i64 (sl : Int), .int .i64 3, .int .i64 7, .int .i64 3, .int .i64 9]
    have hb12 := below_alloc w1 (.cells #[.int .i64 b, .int .i64 (sl : Int), .int .i64 3, .int .i64 7, .int .i64 3, .int .i64 9] 33)
    have h12 : w2.heap.size = w1.heap.size + 1 := by rw [← hw2]; simp
    rw [hw2] at hh hb12 ⊢
    rw [hgh] at hh ⊢
    have HLX : Hid (∀ wx, Below w2.heap.size w2 wx → Cells wx g [.int .i64 3, .int .i64 b, .int .i64 (cn : Int), .int .i64 4] ∧ Cells wx gh [.int .i64 b, .int .i64 (sl : Int), .int .i64 3, .int .i64 7, .int .i64 3, .int .i64 9]) := fun wx hb => ⟨(HX1.out.below hb12 HGE.out.2).below hb (Nat.lt_of_lt_of_le HGE.out.2 hb12.size), hh.below hb hh.lt⟩
    have HB2 : Hid (Below w.heap.size w w2) := HB1.out.trans (hb12.mono HB1.out.size)
    clear hw2 hh hb12 h12 HX1 HB1
    obtain ⟨s1, hs1⟩ : ∃ s1 : DS, { freshS (List.replicate (S * 64) 0) with fu := (fk : Int) } = s1 := ⟨_, rfl⟩
    have hs1w : s1.wr = 0 := by rw [← hs1]; rfl
    have HS1 := Lib.hid hs1
    clear hs1
    go_upto_region 8 with (first
      | (go_at_call 7; refine (NW.out _).mono ?_; rintro e w4 ⟨d, gd, r, c, rfl, hdv, q1, q2, q3, hbel⟩; have HD4 := Lib.hid hdv; have HB4 := Lib.hid hbel; have HG4 : Hid (∀ k, dvL d gd r k → w2.heap.size ≤ k) := (fun k e => by rcases e with e | e | e <;> rw [e] <;> assumption); clear hdv q1 q2 q3 hbel)
      | (go_at_call 20; refine (BL.out _).mono ?_; rintro e w5 ⟨m, m1, m2, m3, c1, c2, rfl, hrv, q0, q1, q2, q3, hbel⟩; have HD5 := Lib.hid (HD4.out.below hbel); have HM5 := Lib.hid hrv; have HB5 := Lib.hid (HB4.out.trans (hbel.mono HB4.out.size)); have HG5 : Hid (∀ k, rvL m m1 m2 m3 k → w4.heap.size ≤ k) := (fun k e => by rcases e with e | e | e | e <;> rw [e] <;> assumption); clear hrv q0 q1 q2 q3 hbel)
      | (go_at_call 21; refine (dfuse_any fk (by omega) HD5.out).mono ?_; rintro e w6 ⟨rfl, hd, hk⟩; rw [HS1.out] at hd; have HD6 := Lib.hid hd; have HK6 := Lib.hid hk; clear hd hk)
      | (go_at_call 22; refine (rfuse_any fk (by omega) (HM5.out.kept HK6.out (fun k h1 h2 => by have := HD4.out.lts k h2; have := HG5.out k h1; omega))).mono ?_; rintro e w7 ⟨rfl, hm, hk⟩; rw [HS1.out] at hm; have HM7 := Lib.hid hm; have HK7 := Lib.hid hk; clear hm hk))
    have HSEP : Hid (∀ k, dvL d gd r k → ¬ rvL m m1 m2 m3 k) := fun k h1 h2 => by have := HD4.out.lts k h1; have := HG5.out k h2; omega
    have HMGE : Hid (∀ k, rvL m m1 m2 m3 k → w2.heap.size ≤ k) := fun k h => Nat.le_trans HB4.out.size (HG5.out k h)
    have HDX : Hid (Dx w7 m m1 m2 m3 S c1 c2 S s1) := ⟨_, HM7.out⟩
    have HD7 := Lib.hid (HD6.out.kept HK7.out HSEP.out)
    have HB6 : Hid (Below w2.heap.size w2 w6) := HB5.out.trans (HK6.out.below HG4.out HB5.out.size)
    have HB7 : Hid (Below w2.heap.size w2 w7) := HB6.out.trans (HK7.out.below HMGE.out HB6.out.size)
    have HW7 : Hid (Below w.heap.size w w7) := HB2.out.trans (HB7.out.mono HB2.out.size)
    have hoz := openS_zero (S := S) (a := 3) (b := b) (c := (cn : Int)) (d := 4) (h := ⟨b, (sl : Int), 3, 7, 3, 9⟩) (s := s1)
    obtain ⟨res, hres⟩ : ∃ res, openS S 3 b (cn : Int) 4 ⟨b, (sl : Int), 3, 7, 3, 9⟩ s1 = res := ⟨_, rfl⟩
    have hpos : 0 < d ∧ 0 < gd ∧ 0 < r := by
      have h1 := HG4.out d (.inl rfl)
      have h2 := HG4.out gd (.inr (.inl rfl))
      have h3 := HG4.out r (.inr (.inr rfl))
      have h4 := HB2.out.size
      have h5 := HSZ.out
      omega
    have OP := Lib.hid (gopen_any 3 b (cn : Int) 4 b (sl : Int) 3 7 3 9 HD7.out (HT.out _ HW7.out) hpos HJ.out.1 HJ.out.2.1 HJ.out.2.2.1 HJ.out.2.2.2 (by omega))
    have RO : Hid (∀ wx, Dx wx m m1 m2 m3 S c1 c2 S s1 → _) := fun wx h => rgopen_any 3 b (cn : Int) 4 b 3 7 3 9 sl h hom (by omega)
    rw [hres] at OP hoz
    rw [hs1w] at hoz
    have HOZ := Lib.hid hoz
    clear hoz
    simp only [hres] at RO
    have hx := HLX.out _ HB7.out
    have k0 := hx.1 0 _ rfl; have k1 := hx.1 1 _ rfl; have k2 := hx.1 2 _ rfl; have k3 := hx.1 3 _ rfl
    have j0 := hx.2 0 _ rfl; have j1 := hx.2 1 _ rfl; have j2 := hx.2 2 _ rfl; have j3 := hx.2 3 _ rfl; have j4 := hx.2 4 _ rfl; have j5 := hx.2 5 _ rfl
    clear hx HD4 HD5 HM5 HD6 HM7 HG5 HK6 HK7 HB4 HB5 HB6 NW BL LY hpos hres
    by_cases h0 : res.1 = 0
    rotate_left
    · have HZ := Lib.hid h0
      obtain ⟨er, her⟩ : ∃ er, res.1 = er := ⟨_, rfl⟩
      have HER := Lib.hid her
      rw [her] at h0
      clear her
      go_wp2_with (first
        | (go_at_call 8; refine OP.out.mono ?_; intro e w8 ho; obtain ⟨rfl, hd, hk⟩ := ho.bad HZ.out; rw [HER.out]; have HD8 := Lib.hid hd; have HM8 := Lib.hid (HDX.out.kept hk (fun k h1 h2 => HSEP.out k h2 h1)); have HB8 := Lib.hid (HB7.out.trans (hk.below HG4.out HB7.out.size)); have hx := HLX.out _ HB8.out; have l0 := hx.1 0 _ rfl; have l1 := hx.1 1 _ rfl; have l2 := hx.1 2 _ rfl; have l3 := hx.1 3 _ rfl; have i0 := hx.2 0 _ rfl; have i1 := hx.2 1 _ rfl; have i2 := hx.2 2 _ rfl; have i3 := hx.2 3 _ rfl; have i4 := hx.2 4 _ rfl; have i5 := hx.2 5 _ rfl; clear hd hk ho hx)
        | (go_at_call 23; refine (RO.out _ HM8.out).mono ?_; intro e w9 ho; obtain ⟨rfl, hd, hk⟩ := ho.bad HZ.out; rw [HER.out]; have HM9 := Lib.hid hd; have HD9 := Lib.hid (HD8.out.kept hk HSEP.out); have HB9 := Lib.hid (HB8.out.trans (hk.below HMGE.out HB8.out.size)); clear hd hk ho)
        | (go_at_call 24; obtain ⟨lf9, hm9⟩ := HM9.out; refine (same_any HD9.out hm9).mono ?_; rintro e w10 ⟨rfl, hbel⟩; have HB10 := Lib.hid (HB2.out.trans ((HB9.out.trans (hbel.mono HB9.out.size)).mono HB2.out.size)); clear hbel hm9)
        | (go_at_call 16; refine (AW.out _ HB10.out).mono ?_; rintro e w11 ⟨rfl, hbel⟩; have HB11 := Lib.hid (HB10.out.trans (hbel.mono HB10.out.size)); clear hbel))
      go_ret
      exact ⟨rfl, HB11.out⟩
    have HZ := Lib.hid h0
    obtain ⟨f, hf⟩ : ∃ f, 74 + (sl : Int) * (cn : Int) = f := ⟨_, rfl⟩
    have m1' : 0 ≤ (sl : Int) * (cn : Int) := Int.mul_nonneg (by omega) (by omega)
    have m2' : (sl : Int) * (cn : Int) ≤ 3 * 16 := Int.mul_le_mul (by omega) hc2.2 (by omega) (by omega)
    have hfr : 0 ≤ f ∧ f ≤ 1000 := by omega
    have HF := Lib.hid hf
    clear hf m1' m2' h0
    go_upto_region 10 with (first
      | (go_at_call 8; refine OP.out.mono ?_; intro e w8 ho; obtain ⟨q, p, rfl, hr8, hk, hp8⟩ := ho.good HZ.out; rw [HF.out] at hr8; have HR8 := Lib.hid hr8; have HK8 := Lib.hid hk; have HP8 := Lib.hid hp8; have HM8 := Lib.hid (HDX.out.kept hk (fun k h1 h2 => HSEP.out k h2 h1)); have HB8 := Lib.hid (HB7.out.trans (hk.below HG4.out HB7.out.size)); have hx := HLX.out _ HB8.out; have l0 := hx.1 0 _ rfl; have l1 := hx.1 1 _ rfl; have l2 := hx.1 2 _ rfl; have l3 := hx.1 3 _ rfl; have i0 := hx.2 0 _ rfl; have i1 := hx.2 1 _ rfl; have i2 := hx.2 2 _ rfl; have i3 := hx.2 3 _ rfl; have i4 := hx.2 4 _ rfl; have i5 := hx.2 5 _ rfl; clear hr8 hk ho hx hp8)
      | (go_at_call 23; refine (RO.out _ HM8.out).mono ?_; intro e w9 ho; obtain ⟨q2, p2, rfl, hr9, hk, hp9, hq9⟩ := ho.good HZ.out; have HU0 := Lib.hid (Duo.opened HB7.out HG4.out HMGE.out HSEP.out HDX.out HR8.out HK8.out HP8.out hr9 hk hp9 hq9); clear hr9 hk ho hp9 hq9))
    clear k0 k1 k2 k3 j0 j1 j2 j3 j4 j5 l0 l1 l2 l3 i0 i1 i2 i3 i4 i5 HR8 HK8 HP8 HM8 HB8 HDX HD7 HB7 HW7 OP RO
    obtain ⟨cp, hcp⟩ : ∃ cp, ((cn : Int) - 1) * 59 = cp := ⟨_, rfl⟩
    rw [hcp] at hcap
    have hcr : 59 ≤ cp ∧ cp ≤ 885 ∧ cp % 59 = 0 := by omega
    have HCAP := Lib.hid hcap
    have HFM := Lib.hid hfm
    have HFI : Hid (RS.fine cp ⟨res.2, 0, 0, []⟩) := ⟨by show ((0 : Nat) : Int) ≤ cp; omega, Nat.le_refl _, by have := (HOZ.out HZ.out).2; show res.2.wr ≤ 1 + 0; omega⟩
    have HLV : Hid (res.2.dead = false) := (HOZ.out HZ.out).1
    clear hcp hcap hfm hom hs1w HS1 HOZ HSS hfk hsl2 hfk2
    go_upto_region 12 with (go_at_call 24; obtain ⟨lf9, hm9⟩ := HU0.out.rr.dv; refine (same_any HU0.out.up.rg.dv hm9).mono ?_; rintro e w10 ⟨rfl, hbel⟩; have HU1 := Lib.hid (HU0.out.later hbel); clear hbel hm9)
    go_wp2_with fail
    have HJ2 := Lib.hid (And.intro hfr (And.intro hcr hc2))
    have HSL4 : Hid ((sl : Int) < 4) := by show _ < _; omega
    go_loopw [15] (fun iv wr => ∃ (i : Nat) (A A2 : Option Addr) (cap cap2 : Nat) (x : RS), iv = .int .i64 (i : Int) ∧ i ≤ 16 ∧ i ≤ no ∧ x.fine cp ∧ x.s.dead = false ∧ Duo w2 wr q d gd r S c ⟨b, (sl : Int), 3, 7, 3, 9⟩ p 3 b (cn : Int) 4 f 7 q2 m m1 m2 m3 c1 c2 S p2 sl A cap A2 cap2 x x) (fun iv _ => 16 - (intOf iv).toNat)
    case atStart => exact ⟨0, none, none, 0, 0, _, rfl, by omega, by omega, HFI.out, HLV.out, HU1.out⟩
    case round =>
      obtain ⟨i, A, A2, cap, cap2, x, rfl, hi, hino, hfx, hdx, hu⟩ := hrel
      have HU := Lib.hid hu
      have HFX := Lib.hid hfx
      have HDX := Lib.hid hdx
      clear hu hfx hdx
      have HLOW : Hid (∀ wx, Below w2.heap.size w2 wx → Below w.heap.size w wx) := fun wx hb => HB2.out.trans (hb.mono HB2.out.size)
      go_upto_region 15 with fail
      go_cut [94] (fun x wx => x = .bool (decide (i < no ∧ i < 16)) ∧ wr = wx)
      case first =>
        by_cases hin : i < no
        · have hin1 : (i : Int) < (no : Int) := by omega
          by_cases h16 : i < 16
          · have h161 : (i : Int) < 16 := by omega
            have e : decide (i < no ∧ i < 16) = true := decide_eq_true ⟨hin, h16⟩
            have HE := Lib.hid e
            clear hin h16 e
            go_wp2
            go_meet
            exact ⟨by rw [HE.out], rfl⟩
          · have h161 : ¬ (i : Int) < 16 := by omega
            have e : decide (i < no ∧ i < 16) = false := decide_eq_false (fun h => h16 h.2)
            have HE := Lib.hid e
            clear hin h16 e
            go_wp2
            go_meet
            exact ⟨by rw [HE.out], rfl⟩
        · have hin1 : ¬ (i : Int) < (no : Int) := by omega
          have e : decide (i < no ∧ i < 16) = false := decide_eq_false (fun h => hin h.1)
          have HE := Lib.hid e
          clear hin e
          go_wp2
          go_meet
          exact ⟨by rw [HE.out], rfl⟩
      obtain ⟨rfl, rfl⟩ := hcut
      by_cases hB : i < no ∧ i < 16
      rotate_left
      · rw [decide_eq_false hB]
        clear hB
        go_upto_region 34 with fail
        obtain ⟨xs, n, tk, bs⟩ := x
        have HUE := HU
        obtain ⟨rm, hrm⟩ : ∃ rm, cp - (n : Int) = rm := ⟨_, rfl⟩
        have hn9 : (n : Int) ≤ cp := HFX.out.le
        have hn8 : n ≤ 1000000 := by have := hcr.2.1; omega
        have HRM : Hid (IntKind.i64.wrap (cp - (n : Int)) = rm) := by show _ = _; rw [IntWalk.i64_in _ (by omega)]; exact hrm
        have AWq : Hid (∀ wx, Below wr.heap.size wr wx → Calls Tryd.prog 16 #[] wx fun e w' => e = .returned (.bool true) ∧ Below wx.heap.size wx w') := fun wx hb => AW.out wx (HLOW.out _ (HUE.out.up.bel.trans (hb.mono HUE.out.up.bel.size)))
        have HDq : Hid (∀ wx, Below wr.heap.size wr wx → Calls Tryd.prog 18 #[.pointer (some ⟨q, 0, none⟩)] wx fun e w' => e = .returned (.agg #[.int .i64 b, .int .i64 (sl : Int), .int .i64 3, .int .i64 7, .int .i64 3, .int .i64 9]) ∧ Below wx.heap.size wx w') := fun wx hb => gheader_any (HUE.out.later hb).up.rg
        have RMq : Hid (∀ wx, Below wr.heap.size wr wx → Calls Tryd.prog 15 #[.pointer (some ⟨q, 0, none⟩)] wx fun e w' => e = .returned (.int .i64 rm) ∧ Below wx.heap.size wx w') := fun wx hb => by
          rw [← hrm]
          exact groom_any (HUE.out.later hb).up.rg HJ.out.1 HJ.out.2.1 HJ.out.2.2.1 HJ.out.2.2.2 cp HCAP.out hn8
        have CPq : Hid (∀ wx, Calls Tryd.prog 14 #[.agg #[.int .i64 3, .int .i64 b, .int .i64 (cn : Int), .int .i64 4]] wx fun e w' => e = .returned (.int .i64 cp) ∧ Below wx.heap.size wx w') := fun wx => refCap_any 3 b (cn : Int) 4 HFM.out cp HCAP.out wx
        clear hrm hn9 hn8
        refine wp_region_inv (F := ?F34) (R34s wr q q2 p2 n sl cn b cp rm A2 cap2) id ?hF34 (by kernel_rfl) (by kernel_rfl) ?ha34 ?h034 ?hs34 ?hfin34
        case hF34 =>
          intro v
          simp only [putsAll, Act.put, List.setIfInBounds_toArray, List.set_cons_zero, List.set_cons_succ]
          rfl
        case ha34 =>
          simp only [putsAll, Act.put, List.setIfInBounds_toArray, List.set_cons_zero, List.set_cons_succ]
          rfl
        case h034 =>
          exact { bel := Below.drew (Below.refl _ _), s0 := nofun, s1 := nofun, s2 := nofun, s3 := nofun, s4 := nofun, s5 := nofun, s6 := nofun, s7 := nofun, s8 := nofun, s9 := nofun, s10 := nofun, s11 := nofun, s12 := nofun, s13 := nofun, s14 := nofun, s15 := nofun, s16 := nofun, s17 := nofun, s18 := nofun, s19 := nofun, s20 := nofun, s21 := nofun, s22 := nofun, s23 := nofun }
        case hs34 =>
          refine ⟨?_, ?_, ?_, ?_, ?_, ?_, ?_, ?_, ?_, ?_, ?_, ?_, ?_, ?_, ?_, ?_, ?_, ?_, ?_, ?_, ?_, ?_, ?_, ?_, trivial⟩
          · intro b9 v w9 hR hc hb hp K hK
            (try simp [Region.binds] at hp)
            clear hc
            have hbl := hR.bel
            go_simp
            go_wp2_with (go_at_call 16; refine (AWq.out _ hbl).mono ?_; rintro e w6 ⟨rfl, hb6⟩)
            exact hK (upd v 0 _) _ { hR with bel := hR.bel.trans (hb6.mono hR.bel.size), s0 := fun _ => rfl }
          · intro b9 v w9 hR hc hb hp K hK
            (try simp [Region.binds] at hp)
            clear hc
            have e0 := hR.s0 (by simp [hp])
            go_simp
            exact hK (upd (upd v 1 _) 0 _) _ { hR with s1 := fun _ => rfl, s0 := fun _ => rfl }
          · intro b9 v w9 hR hc hb hp K hK
            (try simp [Region.binds] at hp)
            clear hc
            have e1 := hR.s1 (by simp [hp])
            go_simp
            exact hK (upd (upd v 2 _) 1 _) _ { hR with s2 := fun _ => rfl, s1 := fun _ => rfl }
          · intro b9 v w9 hR hc hb hp K hK
            (try simp [Region.binds] at hp)
            clear hc
            have e2 := hR.s2 (by simp [hp])
            have e1 := hR.s1 (by simp [hp])
            have hbl := hR.bel
            go_simp
            go_wp2_with (go_at_call 18; refine (HDq.out _ hbl).mono ?_; rintro e w6 ⟨rfl, hb6⟩)
            exact hK (upd (upd (upd v 3 _) 2 _) 1 _) _ { hR with bel := hR.bel.trans (hb6.mono hR.bel.size), s3 := fun _ => rfl, s2 := fun _ => rfl, s1 := fun _ => rfl }
          · intro b9 v w9 hR hc hb hp K hK
            (try simp [Region.binds] at hp)
            clear hc
            have e1 := hR.s1 (by simp [hp])
            have hbl := hR.bel
            have hx := HLX.out _ (HUE.out.up.bel.trans (hbl.mono HUE.out.up.bel.size))
            have y0 := hx.2 0 _ rfl
            have y1 := hx.2 1 _ rfl
            have y2 := hx.2 2 _ rfl
            have y3 := hx.2 3 _ rfl
            have y4 := hx.2 4 _ rfl
            have y5 := hx.2 5 _ rfl
            go_simp
            exact hK (upd (upd v 4 _) 1 _) _ { hR with s4 := fun _ => rfl, s1 := fun _ => rfl }
          · intro b9 v w9 hR hc hb hp K hK
            (try simp [Region.binds] at hp)
            clear hc
            have e3 := hR.s3 (by simp [hp])
            have e4 := hR.s4 (by simp [hp])
            have e1 := hR.s1 (by simp [hp])
            go_simp
            exact hK (upd (upd (upd (upd v 5 _) 3 _) 4 _) 1 _) _ { hR with s5 := fun _ => rfl, s3 := fun _ => rfl, s4 := fun _ => rfl, s1 := fun _ => rfl }
          · intro b9 v w9 hR hc hb hp K hK
            (try simp [Region.binds] at hp)
            clear hc
            have e1 := hR.s1 (by simp [hp])
            have e5 := hR.s5 (by simp [hp])
            go_simp
            exact hK (upd (upd (upd v 6 _) 1 _) 5 _) _ { hR with s6 := fun _ => rfl, s1 := fun _ => rfl, s5 := fun _ => rfl }
          · intro b9 v w9 hR hc hb hp K hK
            (try simp [Region.binds] at hp)
            clear hc
            have e6 := hR.s6 (by simp [hp])
            go_simp
            exact hK (upd (upd v 7 _) 6 _) _ { hR with s7 := fun _ => rfl, s6 := fun _ => rfl }
          · intro b9 v w9 hR hc hb hp K hK
            (try simp [Region.binds] at hp)
            clear hc
            have e7 := hR.s7 (by simp [hp])
            go_simp
            exact hK (upd (upd v 8 _) 7 _) _ { hR with s8 := fun _ => rfl, s7 := fun _ => rfl }
          · intro b9 v w9 hR hc hb hp K hK
            (try simp [Region.binds] at hp)
            clear hc
            have e8 := hR.s8 (by simp [hp])
            have e7 := hR.s7 (by simp [hp])
            have hbl := hR.bel
            go_simp
            go_wp2_with (go_at_call 15; refine (RMq.out _ hbl).mono ?_; rintro e w6 ⟨rfl, hb6⟩)
            exact hK (upd (upd (upd v 9 _) 8 _) 7 _) _ { hR with bel := hR.bel.trans (hb6.mono hR.bel.size), s9 := fun _ => rfl, s8 := fun _ => rfl, s7 := fun _ => rfl }
          · intro b9 v w9 hR hc hb hp K hK
            (try simp [Region.binds] at hp)
            clear hc
            have e7 := hR.s7 (by simp [hp])
            have hbl := hR.bel
            have hx := HLX.out _ (HUE.out.up.bel.trans (hbl.mono HUE.out.up.bel.size))
            have y0 := hx.1 0 _ rfl
            have y1 := hx.1 1 _ rfl
            have y2 := hx.1 2 _ rfl
            have y3 := hx.1 3 _ rfl
            go_simp
            exact hK (upd (upd v 10 _) 7 _) _ { hR with s10 := fun _ => rfl, s7 := fun _ => rfl }
          · intro b9 v w9 hR hc hb hp K hK
            (try simp [Region.binds] at hp)
            clear hc
            have e10 := hR.s10 (by simp [hp])
            have e7 := hR.s7 (by simp [hp])
            have hbl := hR.bel
            go_simp
            go_wp2_with (go_at_call 14; refine (CPq.out _).mono ?_; rintro e w6 ⟨rfl, hb6⟩)
            exact hK (upd (upd (upd v 11 _) 10 _) 7 _) _ { hR with bel := hR.bel.trans (hb6.mono hR.bel.size), s11 := fun _ => rfl, s10 := fun _ => rfl, s7 := fun _ => rfl }
          · intro b9 v w9 hR hc hb hp K hK
            (try simp [Region.binds] at hp)
            clear hc
            have e7 := hR.s7 (by simp [hp])
            go_simp
            exact hK (upd (upd v 12 _) 7 _) _ { hR with s12 := fun _ => rfl, s7 := fun _ => rfl }
          · intro b9 v w9 hR hc hb hp K hK
            (try simp [Region.binds] at hp)
            clear hc
            have e12 := hR.s12 (by simp [hp])
            have e7 := hR.s7 (by simp [hp])
            go_simp
            exact hK (upd (upd (upd v 13 _) 12 _) 7 _) _ { hR with s13 := fun _ => rfl, s12 := fun _ => rfl, s7 := fun _ => rfl }
          · intro b9 v w9 hR hc hb hp K hK
            (try simp [Region.binds] at hp)
            clear hc
            have e13 := hR.s13 (by simp [hp])
            have e7 := hR.s7 (by simp [hp])
            go_simp
            exact hK (upd (upd (upd v 14 _) 13 _) 7 _) _ { hR with s14 := fun _ => rfl, s13 := fun _ => rfl, s7 := fun _ => rfl }
          · intro b9 v w9 hR hc hb hp K hK
            (try simp [Region.binds] at hp)
            clear hc
            have e14 := hR.s14 (by simp [hp])
            have e7 := hR.s7 (by simp [hp])
            have hbl := hR.bel
            have y := (HUE.out.later hbl).rr.cells 7 _ rfl
            go_simp
            exact hK (upd (upd (upd v 15 _) 14 _) 7 _) _ { hR with s15 := fun _ => rfl, s14 := fun _ => rfl, s7 := fun _ => rfl }
          · intro b9 v w9 hR hc hb hp K hK
            (try simp [Region.binds] at hp)
            clear hc
            have e15 := hR.s15 (by simp [hp])
            have e7 := hR.s7 (by simp [hp])
            go_simp
            exact hK (upd (upd (upd v 16 _) 15 _) 7 _) _ { hR with s16 := fun _ => rfl, s15 := fun _ => rfl, s7 := fun _ => rfl }
          · intro b9 v w9 hR hc hb hp K hK
            (try simp [Region.binds] at hp)
            clear hc
            have e16 := hR.s16 (by simp [hp])
            have e7 := hR.s7 (by simp [hp])
            go_simp
            exact hK (upd (upd (upd v 17 _) 16 _) 7 _) _ { hR with s17 := fun _ => rfl, s16 := fun _ => rfl, s7 := fun _ => rfl }
          · intro b9 v w9 hR hc hb hp K hK
            (try simp [Region.binds] at hp)
            clear hc
            have e17 := hR.s17 (by simp [hp])
            have e7 := hR.s7 (by simp [hp])
            have hbl := hR.bel
            have y := (HUE.out.later hbl).rr.pk.cells 6 _ rfl
            go_simp
            exact hK (upd (upd (upd v 18 _) 17 _) 7 _) _ { hR with s18 := fun _ => rfl, s17 := fun _ => rfl, s7 := fun _ => rfl }
          · intro b9 v w9 hR hc hb hp K hK
            (try simp [Region.binds] at hp)
            clear hc
            have e18 := hR.s18 (by simp [hp])
            have e7 := hR.s7 (by simp [hp])
            go_simp
            exact hK (upd (upd (upd v 19 _) 18 _) 7 _) _ { hR with s19 := fun _ => rfl, s18 := fun _ => rfl, s7 := fun _ => rfl }
          · intro b9 v w9 hR hc hb hp K hK
            (try simp [Region.binds] at hp)
            clear hc
            have e11 := hR.s11 (by simp [hp])
            have e19 := hR.s19 (by simp [hp])
            have e7 := hR.s7 (by simp [hp])
            have hbl := hR.bel
            have hrm := HRM.out
            go_simp
            exact hK (upd (upd (upd (upd v 20 _) 11 _) 19 _) 7 _) _ { hR with s20 := fun _ => rfl, s11 := fun _ => rfl, s19 := fun _ => rfl, s7 := fun _ => rfl }
          · intro b9 v w9 hR hc hb hp K hK
            (try simp [Region.binds] at hp)
            clear hc
            have e9 := hR.s9 (by simp [hp])
            have e20 := hR.s20 (by simp [hp])
            have e7 := hR.s7 (by simp [hp])
            go_simp
            exact hK (upd (upd (upd (upd v 21 _) 9 _) 20 _) 7 _) _ { hR with s21 := fun _ => rfl, s9 := fun _ => rfl, s20 := fun _ => rfl, s7 := fun _ => rfl }
          · intro b9 v w9 hR hc hb hp K hK
            (try simp [Region.binds] at hp)
            clear hc
            have e7 := hR.s7 (by simp [hp])
            have e21 := hR.s21 (by simp [hp])
            go_simp
            exact hK (upd (upd (upd v 22 _) 7 _) 21 _) _ { hR with s22 := fun _ => rfl, s7 := fun _ => rfl, s21 := fun _ => rfl }
          · intro b9 v w9 hR hc hb hp K hK
            (try simp [Region.binds] at hp)
            clear hc
            have e22 := hR.s22 (by simp [hp])
            go_simp
            exact hK (upd (upd v 23 _) 22 _) _ { hR with s23 := fun _ => rfl, s22 := fun _ => rfl }
        case hfin34 =>
          intro b9 v w9 hall hR
          have e23 := hR.s23 (hall 23 (by decide))
          have HX := Lib.hid hR.bel
          clear hR hall
          go_wp2_with fail
          go_ret
          exact ⟨(by first | rfl | (show Ending.returned (v 23) = _; rw [e23])), HLOW.out _ (HUE.out.up.bel.trans (HX.out.mono HUE.out.up.bel.size))⟩
      obtain ⟨hin, hi16⟩ := hB
      rw [decide_eq_true ⟨hin, hi16⟩]
      have hi1 : (i : Int) < 16 := by omega
      have hi0 : (0 : Int) ≤ (i : Int) := by omega
      have hile : i + 1 ≤ 16 := by omega
      have hile2 : i + 1 ≤ no := by omega
      obtain ⟨op, ad, rfl, hadlt, hop⟩ := HOS.out.get hin
      have hop' := hop.below (HLOW.out _ HU.out.up.bel) (by rw [addr_block]; exact hadlt)
      obtain ⟨kd, ⟨ki, Ak, nk, ck, key, Av, nv, cv, val, ex⟩, off, mm⟩ := op
      obtain ⟨z0, z1, z2, z3, z4, z5, z6, _⟩ := hop'
      obtain ⟨_, _, _, _, _, _, _, hky, hvl, hok, _, oo, om⟩ := hop
      dsimp only at z0 z1 z2 z3 z4 z5 z6 hky hvl oo om
      obtain ⟨_, _, k1, k2, k3, k4⟩ := hok
      dsimp only at k1 k2 k3 k4
      obtain ⟨mk, hmk, hmk1, hmk2⟩ := mlen2 nk 260
      obtain ⟨mv, hmv, hmv1, hmv2⟩ := mlen2 nv 200
      have SH := Lib.hid (short_any ki ex Ak Av nk ck nv cv mk mv k1 k3 k2 k4 hmk hmv)
      have HKV : Hid (Byt w w.heap.size Ak mk (key.take mk) ∧ Byt w w.heap.size Av mv (val.take mv)) := ⟨hky.take hmk1, hvl.take hmv1⟩
      have HMK : Hid (mk ≤ 260 ∧ mv ≤ 200) := ⟨hmk2, hmv2⟩
      have HOM : Hid (I64 off ∧ I64 mm) := ⟨oo, om⟩
      clear hin hadlt hky hvl hmk hmv hmk1 hmk2 hmv1 hmv2 k1 k2 k3 k4 oo om
      have HXa := Lib.hid (Cells.new wr 38 #[.int .i64 kd, .int .i64 ki, .slice Ak nk ck, .slice Av nv cv, .int .i64 ex, .int .i64 off, .int .i64 mm])
      have HSa := Lib.hid (Soft.new wr 38 #[.int .i64 kd, .int .i64 ki, .slice Ak nk ck, .slice Av nv cv, .int .i64 ex, .int .i64 off, .int .i64 mm])
      have HBa := Lib.hid (below_alloc wr (.cells #[.int .i64 kd, .int .i64 ki, .slice Ak nk ck, .slice Av nv cv, .int .i64 ex, .int .i64 off, .int .i64 mm] 38))
      go_upto_region 19 with (go_at_call 12; refine (SH.out _).mono ?_; rintro e w1 ⟨rfl, hb1⟩; have HXb := Lib.hid (HXa.out.below hb1 (by simp)); have HSb := Lib.hid (HSa.out.same (hb1.block wr.heap.size (by simp))); have HBb := Lib.hid (HBa.out.trans (hb1.mono HBa.out.size)); have y1 := HXb.out 1 _ rfl; have y2 := HXb.out 2 _ rfl; have y3 := HXb.out 3 _ rfl; have y4 := HXb.out 4 _ rfl; have f1 := HSb.out 1; have f2 := HSb.out 2; have f3 := HSb.out 3; have f4 := HSb.out 4; clear hb1)
      have HW := Lib.hid (short_store (Nat.le_refl _) HBb.out HXb.out (.int .i64 ki) (.slice Ak mk ck) (.slice Av mv cv) (.int .i64 ex))
      obtain ⟨wt, hwt⟩ : ∃ x, (((w1.setCell ⟨wr.heap.size, 1, none⟩ (.int .i64 ki)).setCell ⟨wr.heap.size, 2, none⟩ (.slice Ak mk ck)).setCell ⟨wr.heap.size, 3, none⟩ (.slice Av mv cv)).setCell ⟨wr.heap.size, 4, none⟩ (.int .i64 ex) = x := ⟨_, rfl⟩
      rw [hwt] at HW ⊢
      have HU2 := Lib.hid (HU.out.later HW.out.1)
      have HGO : Hid (∀ k, gaL q d gd r p A x.n cap k → ¬ k = wr.heap.size) := fun k hk e => by have := HU.out.up.rg.lts k hk; omega
      have HGP : Hid (∀ k, raL q2 m m1 m2 m3 p2 A2 x.n cap2 k → ¬ k = wr.heap.size) := fun k hk e => by have := HU.out.rr.lts k hk; omega
      obtain ⟨gO, hgO⟩ : ∃ gO, wr.heap.size = gO := ⟨_, rfl⟩
      have HXO := Lib.hid HW.out.2
      rw [hgO] at HXO HGO HGP ⊢
      clear z0 z1 z2 z3 z4 z5 z6 y1 y2 y3 y4 f1 f2 f3 f4 hwt hgO HXa HSa HBa HXb HSb HBb HW SH HU
      have n0 := HXO.out 0 _ rfl; have n1 := HXO.out 1 _ rfl; have n2 := HXO.out 2 _ rfl; have n3 := HXO.out 3 _ rfl; have n4 := HXO.out 4 _ rfl
      go_upto_block 2 with fail
      go_cut [] (fun wx => ∃ (B B2 : Option Addr) (e e2 : Nat) (y : RS), y.fine cp ∧ Duo w2 wx q d gd r S c ⟨b, (sl : Int), 3, 7, 3, 9⟩ p 3 b (cn : Int) 4 f 7 q2 m m1 m2 m3 c1 c2 S p2 sl B e B2 e2 y y)
      case rest =>
        obtain ⟨B, B2, e, e2, y, hfy, hu⟩ := hcut
        obtain ⟨wy, hwy⟩ : ∃ x, x = wc := ⟨_, rfl⟩
        subst hwy
        have HFY := Lib.hid hfy
        have HU3 := Lib.hid hu
        clear hfy hu n0 n1 n2 n3 n4
        go_upto_region 32 with (go_at_call 24; obtain ⟨lf9, hm9⟩ := HU3.out.rr.dv; refine (same_any HU3.out.up.rg.dv hm9).mono ?_; rintro e w10 ⟨rfl, hbel⟩; have HU4 := Lib.hid (HU3.out.later hbel); clear hbel hm9)
        obtain ⟨dy, hdy⟩ : ∃ dy, y.s.dead = dy := ⟨_, rfl⟩
        have ld : w10.cell? ⟨m, 5, none⟩ = some (.bool dy) := by
          obtain ⟨lf, hd⟩ := HU4.out.rr.dv
          rw [← hdy]
          exact hd.cells 5 _ rfl
        have HDY := Lib.hid hdy
        clear hdy
        cases dy
        · go_wp2
          go_roundw
          case rel => exact ⟨i + 1, B, B2, e, e2, y, by go_num, hile, hile2, HFY.out, HDY.out, HU4.out⟩
          case measure => simp [intOf]; omega
        · go_wp2_with (go_at_call 16; refine (AW.out _ (HLOW.out _ HU4.out.up.bel)).mono ?_; rintro e w11 ⟨rfl, hbel⟩; have HB11 := Lib.hid ((HLOW.out _ HU4.out.up.bel).trans (hbel.mono (HLOW.out _ HU4.out.up.bel).size)); clear hbel)
          go_ret
          exact ⟨rfl, HB11.out⟩
      case first =>
        have FX := Lib.hid HFX.out
        by_cases hk0 : kd = 0
        · subst hk0
          obtain ⟨rr, hr⟩ : ∃ rr, rencS b 7 (x.n : Int) ki ex (key.take mk) (val.take mv) = rr := ⟨_, rfl⟩
          have hbw := HLOW.out _ HU2.out.up.bel
          have hxw : x.s.wr ≤ 100000000 := by have := HFX.out.wr; have := HFX.out.tk; have := HFX.out.le; have := HJ2.out; omega
          have hfy := appendR_fine (S := S) (f := f) (sq := 7) (r := rr) HFX.out
          have AP : Hid (Calls Tryd.prog 11 #[.pointer (some ⟨q, 0, none⟩), .agg #[.int .i64 ki, .slice Ak mk ck, .slice Av mv cv, .int .i64 ex]] wt fun e w' => e = .returned (.tuple #[.int .i64 (appendR S f 7 cp x rr).1.1, .int .i64 (appendR S f 7 cp x rr).1.2.1, .int .i64 (appendR S f 7 cp x rr).1.2.2]) ∧ RgOut wt q d gd r S c ⟨b, (sl : Int), 3, 7, 3, 9⟩ p 3 b (cn : Int) 4 f 7 A x.n cap (appendR S f 7 cp x rr).2 w') :=
            gappend_any HU2.out.up.rg (HT.out _ hbw) (HU2.out.up.pos (Nat.lt_of_lt_of_le HSZ.out HB2.out.size)) HJ.out.1 HJ.out.2.1 HJ.out.2.2.1 HJ.out.2.2.2 cp HCAP.out HFX.out.le (by omega) hfr.1 (by omega) (by decide) (by decide) HFX.out.tk hxw ki ex (key.take mk) (val.take mv) Ak Av mk ck mv cv w.heap.size (HKV.out.1.below hbw) (HKV.out.2.below hbw) hbw.size (by have := HMK.out.1; omega) (by have := HMK.out.2; omega) rr hr
          have RA : Hid (∀ wx, Below w.heap.size w wx → Rr wx q2 m m1 m2 m3 S c1 c2 S x.s ⟨b, (sl : Int), 3, 7, 3, 9⟩ p2 3 b (cn : Int) 4 sl 7 A2 x.n cap2 x.tk x.bs → Calls Tryd.prog 25 #[.pointer (some ⟨q2, 0, none⟩), .agg #[.int .i64 ki, .slice Ak mk ck, .slice Av mv cv, .int .i64 ex]] wx fun e w' => e = .returned (.tuple #[.int .i64 (appendR S f 7 cp x rr).1.1, .int .i64 (appendR S f 7 cp x rr).1.2.1, .int .i64 (appendR S f 7 cp x rr).1.2.2]) ∧ RrOut wx q2 m m1 m2 m3 S c1 c2 S ⟨b, (sl : Int), 3, 7, 3, 9⟩ p2 3 b (cn : Int) 4 sl 7 A2 x.n cap2 (appendR S f 7 cp x rr).2 w') := fun wx hbx hrr =>
            rgappend_any hrr HFM.out HSL4.out HF.out cp HCAP.out HFX.out.le (by omega) (by decide) (by decide) HFX.out.tk hxw ki ex (key.take mk) (val.take mv) Ak Av mk ck mv cv w.heap.size (HKV.out.1.below hbx) (HKV.out.2.below hbx) hbx.size (by have := HMK.out.1; omega) (by have := HMK.out.2; omega) rr hr
          obtain ⟨rs, hrs⟩ : ∃ rs, appendR S f 7 cp x rr = rs := ⟨_, rfl⟩
          rw [hrs] at hfy AP
          simp only [hrs] at RA
          obtain ⟨⟨ra, rb, rc⟩, y⟩ := rs
          have HFY := Lib.hid hfy
          clear hr hrs hbw hxw hfy
          go_wp2_with (first
            | (go_at_call 11; refine AP.out.mono ?_; rintro e w3 ⟨rfl, ho⟩; have HXP := Lib.hid (HXO.out.kept ho.choose_spec.choose_spec.2.1 HXO.out.lt (fun hl => HGO.out _ (.inl hl) rfl)); obtain ⟨B, eb, hd⟩ := HU2.out.real ho; have HD3 := Lib.hid hd; have v1 := HXP.out 1 _ rfl; have v2 := HXP.out 2 _ rfl; have v3 := HXP.out 3 _ rfl; have v4 := HXP.out 4 _ rfl; clear hd ho)
            | (go_at_call 25; refine (RA.out _ (HLOW.out _ HD3.out.up.bel) HD3.out.rr).mono ?_; rintro e w4 ⟨rfl, ho⟩; obtain ⟨B2, eb2, hd⟩ := HD3.out.ref ho; have HD4 := Lib.hid hd; clear hd ho))
          (try go_simp)
          go_meet
          exact ⟨B, B2, eb, eb2, y, HFY.out, HD4.out⟩
        have hk0b : (kd == 0) = false := by simpa using hk0
        by_cases hk1 : kd = 1
        · subst hk1
          have hbw := HLOW.out _ HU2.out.up.bel
          have hxw : x.s.wr ≤ 100000000 := by have := HFX.out.wr; have := HFX.out.tk; have := HFX.out.le; have := HJ2.out; omega
          have hfy := syncR_fine (S := S) (f := f) (sq := 7) hcr.2.2 HFX.out
          have hxn : x.n ≤ 900000 := by have := HFX.out.le; omega
          have SY : Hid (Calls Tryd.prog 9 #[.pointer (some ⟨q, 0, none⟩)] wt fun e w' => e = .returned (.int .i64 (syncR S f 7 x).1) ∧ RgOut wt q d gd r S c ⟨b, (sl : Int), 3, 7, 3, 9⟩ p 3 b (cn : Int) 4 f 7 A x.n cap (syncR S f 7 x).2 w') :=
            gsync_any HU2.out.up.rg (HT.out _ hbw) (HU2.out.up.pos (Nat.lt_of_lt_of_le HSZ.out HB2.out.size)) hxn hfr.1 (by omega) (by decide) (by decide) HFX.out.tk hxw
          have RY : Hid (∀ wx, Rr wx q2 m m1 m2 m3 S c1 c2 S x.s ⟨b, (sl : Int), 3, 7, 3, 9⟩ p2 3 b (cn : Int) 4 sl 7 A2 x.n cap2 x.tk x.bs → Calls Tryd.prog 26 #[.pointer (some ⟨q2, 0, none⟩)] wx fun e w' => e = .returned (.int .i64 (syncR S f 7 x).1) ∧ RrOut wx q2 m m1 m2 m3 S c1 c2 S ⟨b, (sl : Int), 3, 7, 3, 9⟩ p2 3 b (cn : Int) 4 sl 7 A2 x.n cap2 (syncR S f 7 x).2 w') := fun wx hrr =>
            rgsync_any hrr HFM.out HSL4.out HF.out hxn (by decide) (by decide) HFX.out.tk hxw
          obtain ⟨rs, hrs⟩ : ∃ rs, syncR S f 7 x = rs := ⟨_, rfl⟩
          rw [hrs] at hfy SY
          simp only [hrs] at RY
          obtain ⟨ra, y⟩ := rs
          have HFY := Lib.hid hfy
          clear hrs hbw hxw hfy hxn
          go_wp2_with (first
            | (go_at_call 9; refine SY.out.mono ?_; rintro e w3 ⟨rfl, ho⟩; obtain ⟨B, eb, hd⟩ := HU2.out.real ho; have HD3 := Lib.hid hd; clear hd ho)
            | (go_at_call 26; refine (RY.out _ HD3.out.rr).mono ?_; rintro e w4 ⟨rfl, ho⟩; obtain ⟨B2, eb2, hd⟩ := HD3.out.ref ho; have HD4 := Lib.hid hd; clear hd ho))
          (try go_simp)
          go_meet
          exact ⟨B, B2, eb, eb2, y, HFY.out, HD4.out⟩
        have hk1b : (kd == 1) = false := by simpa using hk1
        obtain ⟨xs, n, tk, bs⟩ := x
        go_upto_region 20 with fail
        clear n0 n1 n2 n3 n4
        have HUE := HU2
        have hn8 : (n : Int) ≤ cp := HFX.out.le
        have hn9 : n ≤ 1000000 := by have := hcr.2.1; omega
        obtain ⟨k, hk⟩ : ∃ k, mm.toNat = k := ⟨_, rfl⟩
        obtain ⟨seg, hseg⟩ : ∃ seg, (bs.drop off.toNat).take mm.toNat = seg := ⟨_, rfl⟩
        obtain ⟨B1, hB1⟩ : ∃ B, decide (0 ≤ off) = B := ⟨_, rfl⟩
        obtain ⟨B2, hB2⟩ : ∃ B, decide (0 ≤ mm) = B := ⟨_, rfl⟩
        obtain ⟨B3, hB3⟩ : ∃ B, decide (off ≤ (n : Int)) = B := ⟨_, rfl⟩
        obtain ⟨B4, hB4⟩ : ∃ B, decide (mm ≤ (n : Int) - off) = B := ⟨_, rfl⟩
        obtain ⟨P2, hP2⟩ : ∃ B, (B1 && B2) = B := ⟨_, rfl⟩
        obtain ⟨P3, hP3⟩ : ∃ B, (P2 && B3) = B := ⟨_, rfl⟩
        obtain ⟨P4, hP4⟩ : ∃ B, (P3 && B4) = B := ⟨_, rfl⟩
        have HPa : Hid (B1 = true → B2 = P2) := fun h => by rw [← hP2, h]; rfl
        have HPb : Hid (B1 = false → P2 = false) := fun h => by rw [← hP2, h]; rfl
        have HPc : Hid (P2 = true → B3 = P3) := fun h => by rw [← hP3, h]; rfl
        have HPd : Hid (P2 = false → P3 = false) := fun h => by rw [← hP3, h]; rfl
        have HPe : Hid (P3 = true → B4 = P4) := fun h => by rw [← hP4, h]; rfl
        have HPf : Hid (P3 = false → P4 = false) := fun h => by rw [← hP4, h]; rfl
        have HPg : Hid (P4 = true → true = P4) := fun h => h.symm
        have HPh : Hid (P4 = false → P4 = false) := fun h => h
        have HPi : Hid (P4 = true → false = false) := fun _ => rfl
        have HPj : Hid (P4 = false → false = false) := fun _ => rfl
        have HSEG3 : Hid (P3 = true → 0 ≤ off ∧ off ≤ (n : Int)) := fun h => by
          have h1 : (P2 && B3) = true := hP3.trans h
          rw [Bool.and_eq_true] at h1
          have h2 : (B1 && B2) = true := hP2.trans h1.1
          rw [Bool.and_eq_true] at h2
          exact ⟨of_decide_eq_true (hB1.trans h2.1), of_decide_eq_true (hB3.trans h1.2)⟩
        have HSEG : Hid (P4 = true → segOk n off mm) := fun h => by
          have h0 : (P3 && B4) = true := hP4.trans h
          rw [Bool.and_eq_true] at h0
          have h1 : (P2 && B3) = true := hP3.trans h0.1
          rw [Bool.and_eq_true] at h1
          have h2 : (B1 && B2) = true := hP2.trans h1.1
          rw [Bool.and_eq_true] at h2
          exact ⟨of_decide_eq_true (hB1.trans h2.1), of_decide_eq_true (hB2.trans h2.2), of_decide_eq_true (hB3.trans h1.2), of_decide_eq_true (hB4.trans h0.2)⟩
        have HWN : Hid (P3 = true → IntKind.i64.wrap ((n : Int) - off) = (n : Int) - off) := fun h => by
          obtain ⟨h1, h2⟩ := HSEG3.out h
          exact IntWalk.i64_in _ (by omega)
        have HWP : Hid (P4 = true → IntKind.i64.wrap (off + mm) = off + mm) := fun h => by
          obtain ⟨h1, h2, h3, h4⟩ := HSEG.out h
          exact IntWalk.i64_in _ (by omega)
        have HKK := Lib.hid hk
        have RDq : Hid (∀ wx, Below wt.heap.size wt wx → P4 = true → Calls Tryd.prog 17 #[.pointer (some ⟨q, 0, none⟩), .int .i64 off, .int .i64 mm] wx fun e w' => ∃ A1 d1, e = .returned (.slice A1 k d1) ∧ Byt w' w'.heap.size A1 k seg ∧ Below wx.heap.size wx w') := fun wx hb hP => by
          refine (gread_any (HUE.out.later hb).up.rg hn9 off mm).mono ?_
          intro e w' hby
          rcases hby with ⟨h, _⟩ | ⟨_, A1, d1, h1, h2, _, _, h3⟩
          · exact absurd (HSEG.out hP) h
          · rw [hk] at h1
            rw [hseg, hk] at h2
            exact ⟨A1, d1, h1, h2, h3⟩
        have hk9 : P4 = true → k ≤ 1000000 := fun h => by obtain ⟨h1, h2, h3, h4⟩ := HSEG.out h; omega
        have EQq : Hid (∀ wx, P4 = true → ∀ A1 d1 A3 d3, Byt wx wx.heap.size A1 k seg → Byt wx wx.heap.size A3 k seg → Calls Tryd.prog 27 #[.slice A1 k d1, .slice A3 k d3] wx fun e w' => e = .returned (.bool true) ∧ Below wx.heap.size wx w') := fun wx hP A1 d1 A3 d3 h1 h3 => by
          have := hk9 hP
          refine (eq_any seg seg A1 A3 k k d1 d3 _ _ wx h1 h3 (by omega) (by omega)).mono ?_
          rintro e w' ⟨h1, kk, h2⟩
          exact ⟨by rw [h1, decide_eq_true rfl], h2 ▸ below_drewN (Below.refl _ _) kk⟩
        have HGF : Hid ((A2 = none ∧ n = 0 ∧ cap2 = 0) ∨ ∃ g, A2 = some ⟨g, 0, none⟩) := HUE.out.rr.pk.own.gform
        have HCP2 : Hid (n ≤ cap2 ∧ cap2 ≤ 9223372036854775807) := by
          obtain ⟨AX, capX, he, hncap, hcap⟩ := HUE.out.rr.pk.own.form
          injection he with e1 e2 e3
          subst e3
          exact ⟨hncap, hcap⟩
        have HWY : Hid (P4 = true → ∀ wx, Below wt.heap.size wt wx → Byt wx wx.heap.size (if cap2 = off.toNat then A2 else A2.map (·.add off.toNat)) k seg) := fun hP wx hb => by
          obtain ⟨h1, h2, h3, h4⟩ := HSEG.out hP
          have h5 : off.toNat ≤ n := by clear h4; omega
          have h6 : mm.toNat ≤ n - off.toNat := by omega
          have h := ((HUE.out.later hb).rr.pk.own.byt.cut (k := off.toNat) (cap := cap2) h5 HCP2.out.1).take (k := mm.toNat) h6
          rw [hseg, hk] at h
          exact h
        have HTA := Lib.hid hB1
        have HTB := Lib.hid hB2
        have HTC := Lib.hid hB3
        have HTD := Lib.hid hB4
        have HDE : Hid (xs.dead = false) := HDX.out
        clear hn8 hn9 hk hseg hB1 hB2 hB3 hB4 hP2 hP3 hP4 hk9 hk0b hk1b hk0 hk1
        refine wp_region_big (R20s wt gO q q2 p2 m n k off mm A2 cap2 seg B1 B2 B3 B4 P2 P3 P4) (by kernel_rfl) (by kernel_rfl) (by kernel_rfl) (by kernel_rfl) ?h020 ?hs20 ?hfin20
        case h020 =>
          exact { bel := Below.drew (Below.refl _ _), s0 := nofun, s1 := nofun, s2 := nofun, s3 := nofun, s4 := nofun, s5 := nofun, s6 := nofun, s7 := nofun, s8 := nofun, s9 := nofun, s10 := nofun, s11 := nofun, s12 := nofun, s13 := nofun, s14 := nofun, s15 := nofun, s16 := nofun, s17 := nofun, s18 := nofun, s19 := nofun, s20 := nofun, s21 := nofun, s22 := nofun, s23 := nofun, s24 := nofun, s25 := nofun, s26 := nofun, s27 := nofun, s28 := nofun, s29 := nofun, s30 := nofun, s31 := nofun, s32 := nofun, s33 := nofun, s34 := nofun, s35 := nofun, s36 := nofun, s37 := nofun, s38 := nofun, s39 := nofun, s40 := nofun, s41 := nofun, s42 := nofun, s43 := nofun, s44 := nofun, s45 := nofun, s46 := nofun, s47 := nofun, s48 := nofun, s49 := nofun, s51 := nofun, s52 := nofun, s53 := nofun, s54 := nofun, s55 := nofun, s56 := nofun, s57 := nofun, s58 := nofun, s59 := nofun, s60 := nofun, s61 := nofun, s62 := nofun, s63 := nofun, s64 := nofun, s66 := nofun, s67 := nofun, s68 := nofun, o50 := nofun, o65 := nofun }
        case hs20 =>
          refine And.intro ?_ (And.intro ?_ (And.intro ?_ (And.intro ?_ (And.intro ?_ (And.intro ?_ (And.intro ?_ (And.intro ?_ (And.intro ?_ (And.intro ?_ (And.intro ?_ (And.intro ?_ (And.intro ?_ (And.intro ?_ (And.intro ?_ (And.intro ?_ (And.intro ?_ (And.intro ?_ (And.intro ?_ (And.intro ?_ (And.intro ?_ (And.intro ?_ (And.intro ?_ (And.intro ?_ (And.intro ?_ (And.intro ?_ (And.intro ?_ (And.intro ?_ (And.intro ?_ (And.intro ?_ (And.intro ?_ (And.intro ?_ (And.intro ?_ (And.intro ?_ (And.intro ?_ (And.intro ?_ (And.intro ?_ (And.intro ?_ (And.intro ?_ (And.intro ?_ (And.intro ?_ (And.intro ?_ (And.intro ?_ (And.intro ?_ (And.intro ?_ (And.intro ?_ (And.intro ?_ (And.intro ?_ (And.intro ?_ (And.intro ?_ (And.intro ?_ (And.intro ?_ (And.intro ?_ (And.intro ?_ (And.intro ?_ (And.intro ?_ (And.intro ?_ (And.intro ?_ (And.intro ?_ (And.intro ?_ (And.intro ?_ (And.intro ?_ (And.intro ?_ (And.intro ?_ (And.intro ?_ (And.intro ?_ (And.intro ?_ (And.intro ?_ (And.intro ?_ (trivial)))))))))))))))))))))))))))))))))))))))))))))))))))))))))))))))))))))
          · intro b9 v w9 A ev hE hR hc hb hp K hK
            (try simp [Region.binds] at hp)
            clear hc
            have o16 : ev (.tmp 16) = .pointer (some ⟨gO, 0, none⟩) := hE.out 16 (by kernel_rfl) rfl
            have ec := hE.const
            clear hE
            go_simp
            exact hK _ _ { hR with s0 := fun _ => rfl }
          · intro b9 v w9 A ev hE hR hc hb hp K hK
            (try simp [Region.binds] at hp)
            clear hc
            have e0 := (hE.at_ 0 107 (by kernel_rfl)).trans (hR.s0 (by simp [hp]))
            have ec := hE.const
            clear hE
            have hbl := hR.bel
            have y := HXO.out.below hbl HXO.out.lt 5 _ rfl
            go_simp
            exact hK _ _ { hR with s1 := fun _ => rfl }
          · intro b9 v w9 A ev hE hR hc hb hp K hK
            (try simp [Region.binds] at hp)
            clear hc
            have e1 := (hE.at_ 1 108 (by kernel_rfl)).trans (hR.s1 (by simp [hp]))
            have ec := hE.const
            clear hE
            have hbl := hR.bel
            have h := HTA.out
            go_simp
            exact hK _ _ { hR with s2 := fun _ => rfl }
          · intro b9 v w9 A ev hE hR hc hb hp K hK
            (try simp [Region.binds] at hp)
            clear hc
            have e2 := (hE.at_ 2 109 (by kernel_rfl)).trans (hR.s2 (by simp [hp]))
            have ec := hE.const
            clear hE
            go_simp
            exact hK _ _ { hR with s3 := fun _ => rfl }
          · intro b9 v w9 A ev hE hR hc hb hp K hK
            (try simp [Region.binds] at hp)
            clear hc
            have heg := hR.s3 (by simp [hp])
            refine ⟨fun hg => ?_, fun hg => ?_⟩
            · have hP : B1 = true := by have := heg.symm.trans hg; simpa using this
              have o16 : ev (.tmp 16) = .pointer (some ⟨gO, 0, none⟩) := hE.out 16 (by kernel_rfl) rfl
              have ec := hE.const
              clear hE
              go_simp
              exact hK _ _ { hR with s4 := fun _ _ => rfl }
            · exact hK undef w9 { hR with s4 := fun _ h => absurd (heg.trans (congrArg Value.bool h)) hg }
          · intro b9 v w9 A ev hE hR hc hb hp K hK
            (try simp [Region.binds] at hp)
            clear hc
            have heg := hR.s3 (by simp [hp])
            refine ⟨fun hg => ?_, fun hg => ?_⟩
            · have hP : B1 = true := by have := heg.symm.trans hg; simpa using this
              have e4 := (hE.at_ 4 111 (by kernel_rfl)).trans (hR.s4 (by simp [hp]) hP)
              have ec := hE.const
              clear hE
              have hbl := hR.bel
              have y := HXO.out.below hbl HXO.out.lt 6 _ rfl
              go_simp
              exact hK _ _ { hR with s5 := fun _ _ => rfl }
            · exact hK undef w9 { hR with s5 := fun _ h => absurd (heg.trans (congrArg Value.bool h)) hg }
          · intro b9 v w9 A ev hE hR hc hb hp K hK
            (try simp [Region.binds] at hp)
            clear hc
            have heg := hR.s3 (by simp [hp])
            refine ⟨fun hg => ?_, fun hg => ?_⟩
            · have hP : B1 = true := by have := heg.symm.trans hg; simpa using this
              have e5 := (hE.at_ 5 112 (by kernel_rfl)).trans (hR.s5 (by simp [hp]) hP)
              have ec := hE.const
              clear hE
              have hbl := hR.bel
              have h := HTB.out
              go_simp
              exact hK _ _ { hR with s6 := fun _ _ => rfl }
            · exact hK undef w9 { hR with s6 := fun _ h => absurd (heg.trans (congrArg Value.bool h)) hg }
          · intro b9 v w9 A ev hE hR hc hb hp K hK
            (try simp [Region.binds] at hp)
            clear hc
            have hec := (hE.at_ 3 110 (by kernel_rfl)).trans (hR.s3 (by simp [hp]))
            by_cases hP : B1 = true
            · have e6 := (hE.at_ 6 113 (by kernel_rfl)).trans (hR.s6 (by simp [hp]) hP)
              have ec := hE.const
              clear hE
              rw [hP] at hec
              go_simp
              exact hK _ _ { hR with s7 := fun _ => congrArg Value.bool (HPa.out hP) }
            · have hP2 : B1 = false := by simpa using hP
              have ec := hE.const
              clear hE
              rw [hP2] at hec
              go_simp
              exact hK _ _ { hR with s7 := fun _ => congrArg Value.bool (HPb.out hP2).symm }
          · intro b9 v w9 A ev hE hR hc hb hp K hK
            (try simp [Region.binds] at hp)
            clear hc
            have e7 := (hE.at_ 7 114 (by kernel_rfl)).trans (hR.s7 (by simp [hp]))
            have ec := hE.const
            clear hE
            go_simp
            exact hK _ _ { hR with s8 := fun _ => rfl }
          · intro b9 v w9 A ev hE hR hc hb hp K hK
            (try simp [Region.binds] at hp)
            clear hc
            have heg := hR.s8 (by simp [hp])
            refine ⟨fun hg => ?_, fun hg => ?_⟩
            · have hP : P2 = true := by have := heg.symm.trans hg; simpa using this
              have o16 : ev (.tmp 16) = .pointer (some ⟨gO, 0, none⟩) := hE.out 16 (by kernel_rfl) rfl
              have ec := hE.const
              clear hE
              go_simp
              exact hK _ _ { hR with s9 := fun _ _ => rfl }
            · exact hK undef w9 { hR with s9 := fun _ h => absurd (heg.trans (congrArg Value.bool h)) hg }
          · intro b9 v w9 A ev hE hR hc hb hp K hK
            (try simp [Region.binds] at hp)
            clear hc
            have heg := hR.s8 (by simp [hp])
            refine ⟨fun hg => ?_, fun hg => ?_⟩
            · have hP : P2 = true := by have := heg.symm.trans hg; simpa using this
              have e9 := (hE.at_ 9 116 (by kernel_rfl)).trans (hR.s9 (by simp [hp]) hP)
              have ec := hE.const
              clear hE
              have hbl := hR.bel
              have y := HXO.out.below hbl HXO.out.lt 5 _ rfl
              go_simp
              exact hK _ _ { hR with s10 := fun _ _ => rfl }
            · exact hK undef w9 { hR with s10 := fun _ h => absurd (heg.trans (congrArg Value.bool h)) hg }
          · intro b9 v w9 A ev hE hR hc hb hp K hK
            (try simp [Region.binds] at hp)
            clear hc
            have heg := hR.s8 (by simp [hp])
            refine ⟨fun hg => ?_, fun hg => ?_⟩
            · have hP : P2 = true := by have := heg.symm.trans hg; simpa using this
              have o13 : ev (.tmp 13) = .pointer (some ⟨q2, 0, none⟩) := hE.out 13 (by kernel_rfl) rfl
              have ec := hE.const
              clear hE
              go_simp
              exact hK _ _ { hR with s11 := fun _ _ => rfl }
            · exact hK undef w9 { hR with s11 := fun _ h => absurd (heg.trans (congrArg Value.bool h)) hg }
          · intro b9 v w9 A ev hE hR hc hb hp K hK
            (try simp [Region.binds] at hp)
            clear hc
            have heg := hR.s8 (by simp [hp])
            refine ⟨fun hg => ?_, fun hg => ?_⟩
            · have hP : P2 = true := by have := heg.symm.trans hg; simpa using this
              have e11 := (hE.at_ 11 118 (by kernel_rfl)).trans (hR.s11 (by simp [hp]) hP)
              have ec := hE.const
              clear hE
              go_simp
              exact hK _ _ { hR with s12 := fun _ _ => rfl }
            · exact hK undef w9 { hR with s12 := fun _ h => absurd (heg.trans (congrArg Value.bool h)) hg }
          · intro b9 v w9 A ev hE hR hc hb hp K hK
            (try simp [Region.binds] at hp)
            clear hc
            have heg := hR.s8 (by simp [hp])
            refine ⟨fun hg => ?_, fun hg => ?_⟩
            · have hP : P2 = true := by have := heg.symm.trans hg; simpa using this
              have e12 := (hE.at_ 12 119 (by kernel_rfl)).trans (hR.s12 (by simp [hp]) hP)
              have ec := hE.const
              clear hE
              go_simp
              exact hK _ _ { hR with s13 := fun _ _ => rfl }
            · exact hK undef w9 { hR with s13 := fun _ h => absurd (heg.trans (congrArg Value.bool h)) hg }
          · intro b9 v w9 A ev hE hR hc hb hp K hK
            (try simp [Region.binds] at hp)
            clear hc
            have heg := hR.s8 (by simp [hp])
            refine ⟨fun hg => ?_, fun hg => ?_⟩
            · have hP : P2 = true := by have := heg.symm.trans hg; simpa using this
              have e13 := (hE.at_ 13 120 (by kernel_rfl)).trans (hR.s13 (by simp [hp]) hP)
              have ec := hE.const
              clear hE
              have hbl := hR.bel
              have y := (HUE.out.later hbl).rr.cells 7 _ rfl
              go_simp
              exact hK _ _ { hR with s14 := fun _ _ => rfl }
            · exact hK undef w9 { hR with s14 := fun _ h => absurd (heg.trans (congrArg Value.bool h)) hg }
          · intro b9 v w9 A ev hE hR hc hb hp K hK
            (try simp [Region.binds] at hp)
            clear hc
            have heg := hR.s8 (by simp [hp])
            refine ⟨fun hg => ?_, fun hg => ?_⟩
            · have hP : P2 = true := by have := heg.symm.trans hg; simpa using this
              have e14 := (hE.at_ 14 121 (by kernel_rfl)).trans (hR.s14 (by simp [hp]) hP)
              have ec := hE.const
              clear hE
              go_simp
              exact hK _ _ { hR with s15 := fun _ _ => rfl }
            · exact hK undef w9 { hR with s15 := fun _ h => absurd (heg.trans (congrArg Value.bool h)) hg }
          · intro b9 v w9 A ev hE hR hc hb hp K hK
            (try simp [Region.binds] at hp)
            clear hc
            have heg := hR.s8 (by simp [hp])
            refine ⟨fun hg => ?_, fun hg => ?_⟩
            · have hP : P2 = true := by have := heg.symm.trans hg; simpa using this
              have e15 := (hE.at_ 15 122 (by kernel_rfl)).trans (hR.s15 (by simp [hp]) hP)
              have ec := hE.const
              clear hE
              go_simp
              exact hK _ _ { hR with s16 := fun _ _ => rfl }
            · exact hK undef w9 { hR with s16 := fun _ h => absurd (heg.trans (congrArg Value.bool h)) hg }
          · intro b9 v w9 A ev hE hR hc hb hp K hK
            (try simp [Region.binds] at hp)
            clear hc
            have heg := hR.s8 (by simp [hp])
            refine ⟨fun hg => ?_, fun hg => ?_⟩
            · have hP : P2 = true := by have := heg.symm.trans hg; simpa using this
              have e16 := (hE.at_ 16 123 (by kernel_rfl)).trans (hR.s16 (by simp [hp]) hP)
              have ec := hE.const
              clear hE
              have hbl := hR.bel
              have y := (HUE.out.later hbl).rr.pk.cells 6 _ rfl
              go_simp
              exact hK _ _ { hR with s17 := fun _ _ => rfl }
            · exact hK undef w9 { hR with s17 := fun _ h => absurd (heg.trans (congrArg Value.bool h)) hg }
          · intro b9 v w9 A ev hE hR hc hb hp K hK
            (try simp [Region.binds] at hp)
            clear hc
            have heg := hR.s8 (by simp [hp])
            refine ⟨fun hg => ?_, fun hg => ?_⟩
            · have hP : P2 = true := by have := heg.symm.trans hg; simpa using this
              have e17 := (hE.at_ 17 124 (by kernel_rfl)).trans (hR.s17 (by simp [hp]) hP)
              have ec := hE.const
              clear hE
              go_simp
              exact hK _ _ { hR with s18 := fun _ _ => rfl }
            · exact hK undef w9 { hR with s18 := fun _ h => absurd (heg.trans (congrArg Value.bool h)) hg }
          · intro b9 v w9 A ev hE hR hc hb hp K hK
            (try simp [Region.binds] at hp)
            clear hc
            have heg := hR.s8 (by simp [hp])
            refine ⟨fun hg => ?_, fun hg => ?_⟩
            · have hP : P2 = true := by have := heg.symm.trans hg; simpa using this
              have e10 := (hE.at_ 10 117 (by kernel_rfl)).trans (hR.s10 (by simp [hp]) hP)
              have e18 := (hE.at_ 18 125 (by kernel_rfl)).trans (hR.s18 (by simp [hp]) hP)
              have ec := hE.const
              clear hE
              have hbl := hR.bel
              have h := HTC.out
              go_simp
              exact hK _ _ { hR with s19 := fun _ _ => rfl }
            · exact hK undef w9 { hR with s19 := fun _ h => absurd (heg.trans (congrArg Value.bool h)) hg }
          · intro b9 v w9 A ev hE hR hc hb hp K hK
            (try simp [Region.binds] at hp)
            clear hc
            have hec := (hE.at_ 8 115 (by kernel_rfl)).trans (hR.s8 (by simp [hp]))
            by_cases hP : P2 = true
            · have e19 := (hE.at_ 19 126 (by kernel_rfl)).trans (hR.s19 (by simp [hp]) hP)
              have ec := hE.const
              clear hE
              rw [hP] at hec
              go_simp
              exact hK _ _ { hR with s20 := fun _ => congrArg Value.bool (HPc.out hP) }
            · have hP2 : P2 = false := by simpa using hP
              have ec := hE.const
              clear hE
              rw [hP2] at hec
              go_simp
              exact hK _ _ { hR with s20 := fun _ => congrArg Value.bool (HPd.out hP2).symm }
          · intro b9 v w9 A ev hE hR hc hb hp K hK
            (try simp [Region.binds] at hp)
            clear hc
            have e20 := (hE.at_ 20 127 (by kernel_rfl)).trans (hR.s20 (by simp [hp]))
            have ec := hE.const
            clear hE
            go_simp
            exact hK _ _ { hR with s21 := fun _ => rfl }
          · intro b9 v w9 A ev hE hR hc hb hp K hK
            (try simp [Region.binds] at hp)
            clear hc
            have heg := hR.s21 (by simp [hp])
            refine ⟨fun hg => ?_, fun hg => ?_⟩
            · have hP : P3 = true := by have := heg.symm.trans hg; simpa using this
              have o16 : ev (.tmp 16) = .pointer (some ⟨gO, 0, none⟩) := hE.out 16 (by kernel_rfl) rfl
              have ec := hE.const
              clear hE
              go_simp
              exact hK _ _ { hR with s22 := fun _ _ => rfl }
            · exact hK undef w9 { hR with s22 := fun _ h => absurd (heg.trans (congrArg Value.bool h)) hg }
          · intro b9 v w9 A ev hE hR hc hb hp K hK
            (try simp [Region.binds] at hp)
            clear hc
            have heg := hR.s21 (by simp [hp])
            refine ⟨fun hg => ?_, fun hg => ?_⟩
            · have hP : P3 = true := by have := heg.symm.trans hg; simpa using this
              have e22 := (hE.at_ 22 129 (by kernel_rfl)).trans (hR.s22 (by simp [hp]) hP)
              have ec := hE.const
              clear hE
              have hbl := hR.bel
              have y := HXO.out.below hbl HXO.out.lt 6 _ rfl
              go_simp
              exact hK _ _ { hR with s23 := fun _ _ => rfl }
            · exact hK undef w9 { hR with s23 := fun _ h => absurd (heg.trans (congrArg Value.bool h)) hg }
          · intro b9 v w9 A ev hE hR hc hb hp K hK
            (try simp [Region.binds] at hp)
            clear hc
            have heg := hR.s21 (by simp [hp])
            refine ⟨fun hg => ?_, fun hg => ?_⟩
            · have hP : P3 = true := by have := heg.symm.trans hg; simpa using this
              have o13 : ev (.tmp 13) = .pointer (some ⟨q2, 0, none⟩) := hE.out 13 (by kernel_rfl) rfl
              have ec := hE.const
              clear hE
              go_simp
              exact hK _ _ { hR with s24 := fun _ _ => rfl }
            · exact hK undef w9 { hR with s24 := fun _ h => absurd (heg.trans (congrArg Value.bool h)) hg }
          · intro b9 v w9 A ev hE hR hc hb hp K hK
            (try simp [Region.binds] at hp)
            clear hc
            have heg := hR.s21 (by simp [hp])
            refine ⟨fun hg => ?_, fun hg => ?_⟩
            · have hP : P3 = true := by have := heg.symm.trans hg; simpa using this
              have e24 := (hE.at_ 24 131 (by kernel_rfl)).trans (hR.s24 (by simp [hp]) hP)
              have ec := hE.const
              clear hE
              go_simp
              exact hK _ _ { hR with s25 := fun _ _ => rfl }
            · exact hK undef w9 { hR with s25 := fun _ h => absurd (heg.trans (congrArg Value.bool h)) hg }
          · intro b9 v w9 A ev hE hR hc hb hp K hK
            (try simp [Region.binds] at hp)
            clear hc
            have heg := hR.s21 (by simp [hp])
            refine ⟨fun hg => ?_, fun hg => ?_⟩
            · have hP : P3 = true := by have := heg.symm.trans hg; simpa using this
              have e25 := (hE.at_ 25 132 (by kernel_rfl)).trans (hR.s25 (by simp [hp]) hP)
              have ec := hE.const
              clear hE
              go_simp
              exact hK _ _ { hR with s26 := fun _ _ => rfl }
            · exact hK undef w9 { hR with s26 := fun _ h => absurd (heg.trans (congrArg Value.bool h)) hg }
          · intro b9 v w9 A ev hE hR hc hb hp K hK
            (try simp [Region.binds] at hp)
            clear hc
            have heg := hR.s21 (by simp [hp])
            refine ⟨fun hg => ?_, fun hg => ?_⟩
            · have hP : P3 = true := by have := heg.symm.trans hg; simpa using this
              have e26 := (hE.at_ 26 133 (by kernel_rfl)).trans (hR.s26 (by simp [hp]) hP)
              have ec := hE.const
              clear hE
              have hbl := hR.bel
              have y := (HUE.out.later hbl).rr.cells 7 _ rfl
              go_simp
              exact hK _ _ { hR with s27 := fun _ _ => rfl }
            · exact hK undef w9 { hR with s27 := fun _ h => absurd (heg.trans (congrArg Value.bool h)) hg }
          · intro b9 v w9 A ev hE hR hc hb hp K hK
            (try simp [Region.binds] at hp)
            clear hc
            have heg := hR.s21 (by simp [hp])
            refine ⟨fun hg => ?_, fun hg => ?_⟩
            · have hP : P3 = true := by have := heg.symm.trans hg; simpa using this
              have e27 := (hE.at_ 27 134 (by kernel_rfl)).trans (hR.s27 (by simp [hp]) hP)
              have ec := hE.const
              clear hE
              go_simp
              exact hK _ _ { hR with s28 := fun _ _ => rfl }
            · exact hK undef w9 { hR with s28 := fun _ h => absurd (heg.trans (congrArg Value.bool h)) hg }
          · intro b9 v w9 A ev hE hR hc hb hp K hK
            (try simp [Region.binds] at hp)
            clear hc
            have heg := hR.s21 (by simp [hp])
            refine ⟨fun hg => ?_, fun hg => ?_⟩
            · have hP : P3 = true := by have := heg.symm.trans hg; simpa using this
              have e28 := (hE.at_ 28 135 (by kernel_rfl)).trans (hR.s28 (by simp [hp]) hP)
              have ec := hE.const
              clear hE
              go_simp
              exact hK _ _ { hR with s29 := fun _ _ => rfl }
            · exact hK undef w9 { hR with s29 := fun _ h => absurd (heg.trans (congrArg Value.bool h)) hg }
          · intro b9 v w9 A ev hE hR hc hb hp K hK
            (try simp [Region.binds] at hp)
            clear hc
            have heg := hR.s21 (by simp [hp])
            refine ⟨fun hg => ?_, fun hg => ?_⟩
            · have hP : P3 = true := by have := heg.symm.trans hg; simpa using this
              have e29 := (hE.at_ 29 136 (by kernel_rfl)).trans (hR.s29 (by simp [hp]) hP)
              have ec := hE.const
              clear hE
              have hbl := hR.bel
              have y := (HUE.out.later hbl).rr.pk.cells 6 _ rfl
              go_simp
              exact hK _ _ { hR with s30 := fun _ _ => rfl }
            · exact hK undef w9 { hR with s30 := fun _ h => absurd (heg.trans (congrArg Value.bool h)) hg }
          · intro b9 v w9 A ev hE hR hc hb hp K hK
            (try simp [Region.binds] at hp)
            clear hc
            have heg := hR.s21 (by simp [hp])
            refine ⟨fun hg => ?_, fun hg => ?_⟩
            · have hP : P3 = true := by have := heg.symm.trans hg; simpa using this
              have e30 := (hE.at_ 30 137 (by kernel_rfl)).trans (hR.s30 (by simp [hp]) hP)
              have ec := hE.const
              clear hE
              go_simp
              exact hK _ _ { hR with s31 := fun _ _ => rfl }
            · exact hK undef w9 { hR with s31 := fun _ h => absurd (heg.trans (congrArg Value.bool h)) hg }
          · intro b9 v w9 A ev hE hR hc hb hp K hK
            (try simp [Region.binds] at hp)
            clear hc
            have heg := hR.s21 (by simp [hp])
            refine ⟨fun hg => ?_, fun hg => ?_⟩
            · have hP : P3 = true := by have := heg.symm.trans hg; simpa using this
              have o16 : ev (.tmp 16) = .pointer (some ⟨gO, 0, none⟩) := hE.out 16 (by kernel_rfl) rfl
              have ec := hE.const
              clear hE
              go_simp
              exact hK _ _ { hR with s32 := fun _ _ => rfl }
            · exact hK undef w9 { hR with s32 := fun _ h => absurd (heg.trans (congrArg Value.bool h)) hg }
          · intro b9 v w9 A ev hE hR hc hb hp K hK
            (try simp [Region.binds] at hp)
            clear hc
            have heg := hR.s21 (by simp [hp])
            refine ⟨fun hg => ?_, fun hg => ?_⟩
            · have hP : P3 = true := by have := heg.symm.trans hg; simpa using this
              have e32 := (hE.at_ 32 139 (by kernel_rfl)).trans (hR.s32 (by simp [hp]) hP)
              have ec := hE.const
              clear hE
              have hbl := hR.bel
              have y := HXO.out.below hbl HXO.out.lt 5 _ rfl
              go_simp
              exact hK _ _ { hR with s33 := fun _ _ => rfl }
            · exact hK undef w9 { hR with s33 := fun _ h => absurd (heg.trans (congrArg Value.bool h)) hg }
          · intro b9 v w9 A ev hE hR hc hb hp K hK
            (try simp [Region.binds] at hp)
            clear hc
            have heg := hR.s21 (by simp [hp])
            refine ⟨fun hg => ?_, fun hg => ?_⟩
            · have hP : P3 = true := by have := heg.symm.trans hg; simpa using this
              have e31 := (hE.at_ 31 138 (by kernel_rfl)).trans (hR.s31 (by simp [hp]) hP)
              have e33 := (hE.at_ 33 140 (by kernel_rfl)).trans (hR.s33 (by simp [hp]) hP)
              have ec := hE.const
              clear hE
              have hbl := hR.bel
              have h := HWN.out hP
              go_simp
              exact hK _ _ { hR with s34 := fun _ _ => rfl }
            · exact hK undef w9 { hR with s34 := fun _ h => absurd (heg.trans (congrArg Value.bool h)) hg }
          · intro b9 v w9 A ev hE hR hc hb hp K hK
            (try simp [Region.binds] at hp)
            clear hc
            have heg := hR.s21 (by simp [hp])
            refine ⟨fun hg => ?_, fun hg => ?_⟩
            · have hP : P3 = true := by have := heg.symm.trans hg; simpa using this
              have e23 := (hE.at_ 23 130 (by kernel_rfl)).trans (hR.s23 (by simp [hp]) hP)
              have e34 := (hE.at_ 34 141 (by kernel_rfl)).trans (hR.s34 (by simp [hp]) hP)
              have ec := hE.const
              clear hE
              have hbl := hR.bel
              have h := HTD.out
              go_simp
              exact hK _ _ { hR with s35 := fun _ _ => rfl }
            · exact hK undef w9 { hR with s35 := fun _ h => absurd (heg.trans (congrArg Value.bool h)) hg }
          · intro b9 v w9 A ev hE hR hc hb hp K hK
            (try simp [Region.binds] at hp)
            clear hc
            have hec := (hE.at_ 21 128 (by kernel_rfl)).trans (hR.s21 (by simp [hp]))
            by_cases hP : P3 = true
            · have e35 := (hE.at_ 35 142 (by kernel_rfl)).trans (hR.s35 (by simp [hp]) hP)
              have ec := hE.const
              clear hE
              rw [hP] at hec
              go_simp
              exact hK _ _ { hR with s36 := fun _ => congrArg Value.bool (HPe.out hP) }
            · have hP2 : P3 = false := by simpa using hP
              have ec := hE.const
              clear hE
              rw [hP2] at hec
              go_simp
              exact hK _ _ { hR with s36 := fun _ => congrArg Value.bool (HPf.out hP2).symm }
          · intro b9 v w9 A ev hE hR hc hb hp K hK
            (try simp [Region.binds] at hp)
            clear hc
            have e36 := (hE.at_ 36 143 (by kernel_rfl)).trans (hR.s36 (by simp [hp]))
            have ec := hE.const
            clear hE
            go_simp
            exact hK _ _ { hR with s37 := fun _ => rfl }
          · intro b9 v w9 A ev hE hR hc hb hp K hK
            (try simp [Region.binds] at hp)
            clear hc
            have heg := hR.s37 (by simp [hp])
            refine ⟨fun hg => ?_, fun hg => ?_⟩
            · have hP : P4 = true := by have := heg.symm.trans hg; simpa using this
              have o10 : ev (.tmp 10) = .pointer (some ⟨m, 0, none⟩) := hE.out 10 (by kernel_rfl) rfl
              have ec := hE.const
              clear hE
              go_simp
              exact hK _ _ { hR with s38 := fun _ _ => rfl }
            · exact hK undef w9 { hR with s38 := fun _ h => absurd (heg.trans (congrArg Value.bool h)) hg }
          · intro b9 v w9 A ev hE hR hc hb hp K hK
            (try simp [Region.binds] at hp)
            clear hc
            have heg := hR.s37 (by simp [hp])
            refine ⟨fun hg => ?_, fun hg => ?_⟩
            · have hP : P4 = true := by have := heg.symm.trans hg; simpa using this
              have e38 := (hE.at_ 38 145 (by kernel_rfl)).trans (hR.s38 (by simp [hp]) hP)
              have ec := hE.const
              clear hE
              go_simp
              exact hK _ _ { hR with s39 := fun _ _ => rfl }
            · exact hK undef w9 { hR with s39 := fun _ h => absurd (heg.trans (congrArg Value.bool h)) hg }
          · intro b9 v w9 A ev hE hR hc hb hp K hK
            (try simp [Region.binds] at hp)
            clear hc
            have heg := hR.s37 (by simp [hp])
            refine ⟨fun hg => ?_, fun hg => ?_⟩
            · have hP : P4 = true := by have := heg.symm.trans hg; simpa using this
              have e39 := (hE.at_ 39 146 (by kernel_rfl)).trans (hR.s39 (by simp [hp]) hP)
              have ec := hE.const
              clear hE
              go_simp
              exact hK _ _ { hR with s40 := fun _ _ => rfl }
            · exact hK undef w9 { hR with s40 := fun _ h => absurd (heg.trans (congrArg Value.bool h)) hg }
          · intro b9 v w9 A ev hE hR hc hb hp K hK
            (try simp [Region.binds] at hp)
            clear hc
            have heg := hR.s37 (by simp [hp])
            refine ⟨fun hg => ?_, fun hg => ?_⟩
            · have hP : P4 = true := by have := heg.symm.trans hg; simpa using this
              have e40 := (hE.at_ 40 147 (by kernel_rfl)).trans (hR.s40 (by simp [hp]) hP)
              have ec := hE.const
              clear hE
              have hbl := hR.bel
              obtain ⟨lf, hd⟩ := (HUE.out.later hbl).rr.dv
              have y := hd.cells 5 _ rfl
              rw [HDE.out] at y
              clear hd
              go_simp
              exact hK _ _ { hR with s41 := fun _ _ => rfl }
            · exact hK undef w9 { hR with s41 := fun _ h => absurd (heg.trans (congrArg Value.bool h)) hg }
          · intro b9 v w9 A ev hE hR hc hb hp K hK
            (try simp [Region.binds] at hp)
            clear hc
            have heg := hR.s37 (by simp [hp])
            refine ⟨fun hg => ?_, fun hg => ?_⟩
            · have hP : P4 = true := by have := heg.symm.trans hg; simpa using this
              have e41 := (hE.at_ 41 148 (by kernel_rfl)).trans (hR.s41 (by simp [hp]) hP)
              have ec := hE.const
              clear hE
              go_simp
              exact hK _ _ { hR with s42 := fun _ _ => rfl }
            · exact hK undef w9 { hR with s42 := fun _ h => absurd (heg.trans (congrArg Value.bool h)) hg }
          · intro b9 v w9 A ev hE hR hc hb hp K hK
            (try simp [Region.binds] at hp)
            clear hc
            have hec := (hE.at_ 37 144 (by kernel_rfl)).trans (hR.s37 (by simp [hp]))
            by_cases hP : P4 = true
            · have e42 := (hE.at_ 42 149 (by kernel_rfl)).trans (hR.s42 (by simp [hp]) hP)
              have ec := hE.const
              clear hE
              rw [hP] at hec
              go_simp
              exact hK _ _ { hR with s43 := fun _ => congrArg Value.bool (HPg.out hP) }
            · have hP2 : P4 = false := by simpa using hP
              have ec := hE.const
              clear hE
              rw [hP2] at hec
              go_simp
              exact hK _ _ { hR with s43 := fun _ => congrArg Value.bool (HPh.out hP2).symm }
          · intro b9 v w9 A ev hE hR hc hb hp K hK
            (try simp [Region.binds] at hp)
            clear hc
            have e43 := (hE.at_ 43 150 (by kernel_rfl)).trans (hR.s43 (by simp [hp]))
            have ec := hE.const
            clear hE
            go_simp
            exact hK _ _ { hR with s44 := fun _ => rfl }
          · intro b9 v w9 A ev hE hR hc hb hp K hK
            (try simp [Region.binds] at hp)
            clear hc
            have heg := hR.s44 (by simp [hp])
            refine ⟨fun hg => ?_, fun hg => ?_⟩
            · have hP : P4 = true := by have := heg.symm.trans hg; simpa using this
              have o11 : ev (.tmp 11) = .pointer (some ⟨q, 0, none⟩) := hE.out 11 (by kernel_rfl) rfl
              have ec := hE.const
              clear hE
              go_simp
              exact hK _ _ { hR with s45 := fun _ _ => rfl }
            · exact hK undef w9 { hR with s45 := fun _ h => absurd (heg.trans (congrArg Value.bool h)) hg }
          · intro b9 v w9 A ev hE hR hc hb hp K hK
            (try simp [Region.binds] at hp)
            clear hc
            have heg := hR.s44 (by simp [hp])
            refine ⟨fun hg => ?_, fun hg => ?_⟩
            · have hP : P4 = true := by have := heg.symm.trans hg; simpa using this
              have o16 : ev (.tmp 16) = .pointer (some ⟨gO, 0, none⟩) := hE.out 16 (by kernel_rfl) rfl
              have ec := hE.const
              clear hE
              go_simp
              exact hK _ _ { hR with s46 := fun _ _ => rfl }
            · exact hK undef w9 { hR with s46 := fun _ h => absurd (heg.trans (congrArg Value.bool h)) hg }
          · intro b9 v w9 A ev hE hR hc hb hp K hK
            (try simp [Region.binds] at hp)
            clear hc
            have heg := hR.s44 (by simp [hp])
            refine ⟨fun hg => ?_, fun hg => ?_⟩
            · have hP : P4 = true := by have := heg.symm.trans hg; simpa using this
              have e46 := (hE.at_ 46 153 (by kernel_rfl)).trans (hR.s46 (by simp [hp]) hP)
              have ec := hE.const
              clear hE
              have hbl := hR.bel
              have y := HXO.out.below hbl HXO.out.lt 5 _ rfl
              go_simp
              exact hK _ _ { hR with s47 := fun _ _ => rfl }
            · exact hK undef w9 { hR with s47 := fun _ h => absurd (heg.trans (congrArg Value.bool h)) hg }
          · intro b9 v w9 A ev hE hR hc hb hp K hK
            (try simp [Region.binds] at hp)
            clear hc
            have heg := hR.s44 (by simp [hp])
            refine ⟨fun hg => ?_, fun hg => ?_⟩
            · have hP : P4 = true := by have := heg.symm.trans hg; simpa using this
              have o16 : ev (.tmp 16) = .pointer (some ⟨gO, 0, none⟩) := hE.out 16 (by kernel_rfl) rfl
              have ec := hE.const
              clear hE
              go_simp
              exact hK _ _ { hR with s48 := fun _ _ => rfl }
            · exact hK undef w9 { hR with s48 := fun _ h => absurd (heg.trans (congrArg Value.bool h)) hg }
          · intro b9 v w9 A ev hE hR hc hb hp K hK
            (try simp [Region.binds] at hp)
            clear hc
            have heg := hR.s44 (by simp [hp])
            refine ⟨fun hg => ?_, fun hg => ?_⟩
            · have hP : P4 = true := by have := heg.symm.trans hg; simpa using this
              have e48 := (hE.at_ 48 155 (by kernel_rfl)).trans (hR.s48 (by simp [hp]) hP)
              have ec := hE.const
              clear hE
              have hbl := hR.bel
              have y := HXO.out.below hbl HXO.out.lt 6 _ rfl
              go_simp
              exact hK _ _ { hR with s49 := fun _ _ => rfl }
            · exact hK undef w9 { hR with s49 := fun _ h => absurd (heg.trans (congrArg Value.bool h)) hg }
          · intro b9 v w9 A ev hE hR hc hb hp K hK
            (try simp [Region.binds] at hp)
            clear hc
            have heg := hR.s44 (by simp [hp])
            refine ⟨fun hg => ?_, fun hg => ?_⟩
            · have hP : P4 = true := by have := heg.symm.trans hg; simpa using this
              have e45 := (hE.at_ 45 152 (by kernel_rfl)).trans (hR.s45 (by simp [hp]) hP)
              have e47 := (hE.at_ 47 154 (by kernel_rfl)).trans (hR.s47 (by simp [hp]) hP)
              have e49 := (hE.at_ 49 156 (by kernel_rfl)).trans (hR.s49 (by simp [hp]) hP)
              have ec := hE.const
              have ef := hE.func
              clear hE
              have hbl := hR.bel
              go_simp
              go_wp2_with (go_at_call 17; refine (RDq.out _ hbl hP).mono ?_; rintro e w6 ⟨A1, d1, rfl, hby, hb6⟩)
              first | exact hK _ _ { R20s.later hR hb6 with o50 := fun _ _ => ⟨A1, d1, rfl, hby⟩ } | exact { R20s.later hR hb6 with o50 := fun _ _ => ⟨A1, d1, rfl, hby⟩ }
            · exact hK undef w9 { hR with o50 := fun _ h => absurd (heg.trans (congrArg Value.bool h)) hg }
          · intro b9 v w9 A ev hE hR hc hb hp K hK
            (try simp [Region.binds] at hp)
            clear hc
            have heg := hR.s44 (by simp [hp])
            refine ⟨fun hg => ?_, fun hg => ?_⟩
            · have hP : P4 = true := by have := heg.symm.trans hg; simpa using this
              have o13 : ev (.tmp 13) = .pointer (some ⟨q2, 0, none⟩) := hE.out 13 (by kernel_rfl) rfl
              have ec := hE.const
              clear hE
              go_simp
              exact hK _ _ { hR with s51 := fun _ _ => rfl }
            · exact hK undef w9 { hR with s51 := fun _ h => absurd (heg.trans (congrArg Value.bool h)) hg }
          · intro b9 v w9 A ev hE hR hc hb hp K hK
            (try simp [Region.binds] at hp)
            clear hc
            have heg := hR.s44 (by simp [hp])
            refine ⟨fun hg => ?_, fun hg => ?_⟩
            · have hP : P4 = true := by have := heg.symm.trans hg; simpa using this
              have e51 := (hE.at_ 51 158 (by kernel_rfl)).trans (hR.s51 (by simp [hp]) hP)
              have ec := hE.const
              clear hE
              go_simp
              exact hK _ _ { hR with s52 := fun _ _ => rfl }
            · exact hK undef w9 { hR with s52 := fun _ h => absurd (heg.trans (congrArg Value.bool h)) hg }
          · intro b9 v w9 A ev hE hR hc hb hp K hK
            (try simp [Region.binds] at hp)
            clear hc
            have heg := hR.s44 (by simp [hp])
            refine ⟨fun hg => ?_, fun hg => ?_⟩
            · have hP : P4 = true := by have := heg.symm.trans hg; simpa using this
              have e52 := (hE.at_ 52 159 (by kernel_rfl)).trans (hR.s52 (by simp [hp]) hP)
              have ec := hE.const
              clear hE
              go_simp
              exact hK _ _ { hR with s53 := fun _ _ => rfl }
            · exact hK undef w9 { hR with s53 := fun _ h => absurd (heg.trans (congrArg Value.bool h)) hg }
          · intro b9 v w9 A ev hE hR hc hb hp K hK
            (try simp [Region.binds] at hp)
            clear hc
            have heg := hR.s44 (by simp [hp])
            refine ⟨fun hg => ?_, fun hg => ?_⟩
            · have hP : P4 = true := by have := heg.symm.trans hg; simpa using this
              have e53 := (hE.at_ 53 160 (by kernel_rfl)).trans (hR.s53 (by simp [hp]) hP)
              have ec := hE.const
              clear hE
              have hbl := hR.bel
              have y := (HUE.out.later hbl).rr.cells 7 _ rfl
              go_simp
              exact hK _ _ { hR with s54 := fun _ _ => rfl }
            · exact hK undef w9 { hR with s54 := fun _ h => absurd (heg.trans (congrArg Value.bool h)) hg }
          · intro b9 v w9 A ev hE hR hc hb hp K hK
            (try simp [Region.binds] at hp)
            clear hc
            have heg := hR.s44 (by simp [hp])
            refine ⟨fun hg => ?_, fun hg => ?_⟩
            · have hP : P4 = true := by have := heg.symm.trans hg; simpa using this
              have e54 := (hE.at_ 54 161 (by kernel_rfl)).trans (hR.s54 (by simp [hp]) hP)
              have ec := hE.const
              clear hE
              go_simp
              exact hK _ _ { hR with s55 := fun _ _ => rfl }
            · exact hK undef w9 { hR with s55 := fun _ h => absurd (heg.trans (congrArg Value.bool h)) hg }
          · intro b9 v w9 A ev hE hR hc hb hp K hK
            (try simp [Region.binds] at hp)
            clear hc
            have heg := hR.s44 (by simp [hp])
            refine ⟨fun hg => ?_, fun hg => ?_⟩
            · have hP : P4 = true := by have := heg.symm.trans hg; simpa using this
              have e55 := (hE.at_ 55 162 (by kernel_rfl)).trans (hR.s55 (by simp [hp]) hP)
              have ec := hE.const
              clear hE
              go_simp
              exact hK _ _ { hR with s56 := fun _ _ => rfl }
            · exact hK undef w9 { hR with s56 := fun _ h => absurd (heg.trans (congrArg Value.bool h)) hg }
          · intro b9 v w9 A ev hE hR hc hb hp K hK
            (try simp [Region.binds] at hp)
            clear hc
            have heg := hR.s44 (by simp [hp])
            refine ⟨fun hg => ?_, fun hg => ?_⟩
            · have hP : P4 = true := by have := heg.symm.trans hg; simpa using this
              have e56 := (hE.at_ 56 163 (by kernel_rfl)).trans (hR.s56 (by simp [hp]) hP)
              have ec := hE.const
              clear hE
              have hbl := hR.bel
              have y := (HUE.out.later hbl).rr.pk.cells 6 _ rfl
              go_simp
              exact hK _ _ { hR with s57 := fun _ _ => rfl }
            · exact hK undef w9 { hR with s57 := fun _ h => absurd (heg.trans (congrArg Value.bool h)) hg }
          · intro b9 v w9 A ev hE hR hc hb hp K hK
            (try simp [Region.binds] at hp)
            clear hc
            have heg := hR.s44 (by simp [hp])
            refine ⟨fun hg => ?_, fun hg => ?_⟩
            · have hP : P4 = true := by have := heg.symm.trans hg; simpa using this
              have o16 : ev (.tmp 16) = .pointer (some ⟨gO, 0, none⟩) := hE.out 16 (by kernel_rfl) rfl
              have ec := hE.const
              clear hE
              go_simp
              exact hK _ _ { hR with s58 := fun _ _ => rfl }
            · exact hK undef w9 { hR with s58 := fun _ h => absurd (heg.trans (congrArg Value.bool h)) hg }
          · intro b9 v w9 A ev hE hR hc hb hp K hK
            (try simp [Region.binds] at hp)
            clear hc
            have heg := hR.s44 (by simp [hp])
            refine ⟨fun hg => ?_, fun hg => ?_⟩
            · have hP : P4 = true := by have := heg.symm.trans hg; simpa using this
              have e58 := (hE.at_ 58 165 (by kernel_rfl)).trans (hR.s58 (by simp [hp]) hP)
              have ec := hE.const
              clear hE
              have hbl := hR.bel
              have y := HXO.out.below hbl HXO.out.lt 5 _ rfl
              go_simp
              exact hK _ _ { hR with s59 := fun _ _ => rfl }
            · exact hK undef w9 { hR with s59 := fun _ h => absurd (heg.trans (congrArg Value.bool h)) hg }
          · intro b9 v w9 A ev hE hR hc hb hp K hK
            (try simp [Region.binds] at hp)
            clear hc
            have heg := hR.s44 (by simp [hp])
            refine ⟨fun hg => ?_, fun hg => ?_⟩
            · have hP : P4 = true := by have := heg.symm.trans hg; simpa using this
              have o16 : ev (.tmp 16) = .pointer (some ⟨gO, 0, none⟩) := hE.out 16 (by kernel_rfl) rfl
              have ec := hE.const
              clear hE
              go_simp
              exact hK _ _ { hR with s60 := fun _ _ => rfl }
            · exact hK undef w9 { hR with s60 := fun _ h => absurd (heg.trans (congrArg Value.bool h)) hg }
          · intro b9 v w9 A ev hE hR hc hb hp K hK
            (try simp [Region.binds] at hp)
            clear hc
            have heg := hR.s44 (by simp [hp])
            refine ⟨fun hg => ?_, fun hg => ?_⟩
            · have hP : P4 = true := by have := heg.symm.trans hg; simpa using this
              have e60 := (hE.at_ 60 167 (by kernel_rfl)).trans (hR.s60 (by simp [hp]) hP)
              have ec := hE.const
              clear hE
              have hbl := hR.bel
              have y := HXO.out.below hbl HXO.out.lt 5 _ rfl
              go_simp
              exact hK _ _ { hR with s61 := fun _ _ => rfl }
            · exact hK undef w9 { hR with s61 := fun _ h => absurd (heg.trans (congrArg Value.bool h)) hg }
          · intro b9 v w9 A ev hE hR hc hb hp K hK
            (try simp [Region.binds] at hp)
            clear hc
            have heg := hR.s44 (by simp [hp])
            refine ⟨fun hg => ?_, fun hg => ?_⟩
            · have hP : P4 = true := by have := heg.symm.trans hg; simpa using this
              have o16 : ev (.tmp 16) = .pointer (some ⟨gO, 0, none⟩) := hE.out 16 (by kernel_rfl) rfl
              have ec := hE.const
              clear hE
              go_simp
              exact hK _ _ { hR with s62 := fun _ _ => rfl }
            · exact hK undef w9 { hR with s62 := fun _ h => absurd (heg.trans (congrArg Value.bool h)) hg }
          · intro b9 v w9 A ev hE hR hc hb hp K hK
            (try simp [Region.binds] at hp)
            clear hc
            have heg := hR.s44 (by simp [hp])
            refine ⟨fun hg => ?_, fun hg => ?_⟩
            · have hP : P4 = true := by have := heg.symm.trans hg; simpa using this
              have e62 := (hE.at_ 62 169 (by kernel_rfl)).trans (hR.s62 (by simp [hp]) hP)
              have ec := hE.const
              clear hE
              have hbl := hR.bel
              have y := HXO.out.below hbl HXO.out.lt 6 _ rfl
              go_simp
              exact hK _ _ { hR with s63 := fun _ _ => rfl }
            · exact hK undef w9 { hR with s63 := fun _ h => absurd (heg.trans (congrArg Value.bool h)) hg }
          · intro b9 v w9 A ev hE hR hc hb hp K hK
            (try simp [Region.binds] at hp)
            clear hc
            have heg := hR.s44 (by simp [hp])
            refine ⟨fun hg => ?_, fun hg => ?_⟩
            · have hP : P4 = true := by have := heg.symm.trans hg; simpa using this
              have e61 := (hE.at_ 61 168 (by kernel_rfl)).trans (hR.s61 (by simp [hp]) hP)
              have e63 := (hE.at_ 63 170 (by kernel_rfl)).trans (hR.s63 (by simp [hp]) hP)
              have ec := hE.const
              clear hE
              have hbl := hR.bel
              have h := HWP.out hP
              go_simp
              exact hK _ _ { hR with s64 := fun _ _ => rfl }
            · exact hK undef w9 { hR with s64 := fun _ h => absurd (heg.trans (congrArg Value.bool h)) hg }
          · intro b9 v w9 A ev hE hR hc hb hp K hK
            (try simp [Region.binds] at hp)
            clear hc
            have heg := hR.s44 (by simp [hp])
            refine ⟨fun hg => ?_, fun hg => ?_⟩
            · have hP : P4 = true := by have := heg.symm.trans hg; simpa using this
              have e57 := (hE.at_ 57 164 (by kernel_rfl)).trans (hR.s57 (by simp [hp]) hP)
              have e59 := (hE.at_ 59 166 (by kernel_rfl)).trans (hR.s59 (by simp [hp]) hP)
              have e64 := (hE.at_ 64 171 (by kernel_rfl)).trans (hR.s64 (by simp [hp]) hP)
              have ec := hE.const
              clear hE
              obtain ⟨h1, h2, h3, h4⟩ := HSEG.out hP
              have hwy := HWY.out hP
              have hkk := HKK.out
              obtain ⟨lo, hlo⟩ : ∃ lo : Nat, off = (lo : Int) := ⟨off.toNat, by omega⟩
              obtain ⟨k1, hmk⟩ : ∃ k1 : Nat, mm = (k1 : Int) := ⟨mm.toNat, by omega⟩
              have hk1k : k1 = k := by omega
              subst hk1k
              have HH := Lib.hid (And.intro hlo hmk)
              have hlt : off.toNat = lo := by omega
              rw [hlt] at hwy
              rw [hlo] at e59 e64 h3 h4
              rw [hmk] at e64 h4
              clear hlt hkk h1 h2
              clear hlo hmk
              rcases HGF.out with ⟨q1, q2', q3⟩ | ⟨gA, q1⟩
              · have hl0 : lo = 0 := by omega
                subst hl0
                have hk0 : k1 = 0 := by omega
                have HK0 := Lib.hid hk0
                rw [hk0] at e64 h4
                rw [q1, q3, if_pos rfl] at hwy
                have HWY2 := Lib.hid hwy
                have HQ := Lib.hid (And.intro q1 (And.intro q2' q3))
                rw [q1, q2', q3] at e57
                clear hwy q1 q2' q3 h3 h4 hk0
                go_simp
                exact hK _ _ { hR with o65 := fun _ _ => ⟨none, 0, by rw [HK0.out]; rfl, HWY2.out⟩ }
              · obtain ⟨hncap, hcap9⟩ := HCP2.out
                have HQ := Lib.hid q1
                rw [q1] at e57 hwy
                have hk0n : (0 : Int) ≤ (k1 : Int) := by omega
                have hc1 : (lo : Int) + (k1 : Int) ≤ (cap2 : Int) := by omega
                have hc2 : (0 : Int) ≤ (lo : Int) + (k1 : Int) := by omega
                have hc3 : (lo : Int) ≤ max ((lo : Int) + (k1 : Int)) 0 := by omega
                have hc5 : ((lo : Int) + (k1 : Int)).toNat = lo + k1 := by omega
                have hc6 : lo + k1 - lo = k1 := by omega
                have hc7 : ((lo : Int) + (k1 : Int) - (lo : Int)).toNat = k1 := by omega
                clear q1 h3 h4
                by_cases hcl : cap2 = lo
                · rw [if_pos hcl] at hwy
                  have HWY2 := Lib.hid hwy
                  have HCL := Lib.hid hcl
                  rw [hcl] at e57 hc1
                  clear hwy hcl
                  go_simp
                  exact hK _ _ { hR with o65 := fun _ _ => ⟨_, _, rfl, HWY2.out⟩ }
                · rw [if_neg hcl] at hwy
                  have hadd : (Option.map (fun x : Addr => x.add lo) (some (⟨gA, 0, none⟩ : Addr))) = some ⟨gA, lo, none⟩ := by
                    simp only [Option.map_some, Addr.add]
                    by_cases h0 : lo = 0
                    · rw [if_pos h0, h0]
                    · rw [if_neg h0, Nat.zero_add]
                  rw [hadd] at hwy
                  have HWY2 := Lib.hid hwy
                  clear hwy hadd
                  go_simp
                  exact hK _ _ { hR with o65 := fun _ _ => ⟨_, _, rfl, HWY2.out⟩ }
            · exact hK undef w9 { hR with o65 := fun _ h => absurd (heg.trans (congrArg Value.bool h)) hg }
          · intro b9 v w9 A ev hE hR hc hb hp K hK
            (try simp [Region.binds] at hp)
            clear hc
            have heg := hR.s44 (by simp [hp])
            refine ⟨fun hg => ?_, fun hg => ?_⟩
            · have hP : P4 = true := by have := heg.symm.trans hg; simpa using this
              obtain ⟨A1, d1, q50, hb1⟩ := hR.o50 (by simp [hp]) hP
              obtain ⟨A3, d3, q65, hb3⟩ := hR.o65 (by simp [hp]) hP
              have e50 := (hE.at_ 50 157 (by kernel_rfl)).trans q50
              have e65 := (hE.at_ 65 172 (by kernel_rfl)).trans q65
              have ec := hE.const
              have ef := hE.func
              clear hE
              have hbl := hR.bel
              clear q50 q65
              go_simp
              go_wp2_with (go_at_call 27; refine (EQq.out _ hP A1 d1 A3 d3 hb1 (hb3 _ hbl)).mono ?_; rintro e w6 ⟨rfl, hb6⟩)
              first | exact hK _ _ { R20s.later hR hb6 with s66 := fun _ _ => rfl } | exact { R20s.later hR hb6 with s66 := fun _ _ => rfl }
            · exact hK undef w9 { hR with s66 := fun _ h => absurd (heg.trans (congrArg Value.bool h)) hg }
          · intro b9 v w9 A ev hE hR hc hb hp K hK
            (try simp [Region.binds] at hp)
            clear hc
            have heg := hR.s44 (by simp [hp])
            refine ⟨fun hg => ?_, fun hg => ?_⟩
            · have hP : P4 = true := by have := heg.symm.trans hg; simpa using this
              have e66 := (hE.at_ 66 173 (by kernel_rfl)).trans (hR.s66 (by simp [hp]) hP)
              have ec := hE.const
              clear hE
              go_simp
              exact hK _ _ { hR with s67 := fun _ _ => rfl }
            · exact hK undef w9 { hR with s67 := fun _ h => absurd (heg.trans (congrArg Value.bool h)) hg }
          · intro b9 v w9 A ev hE hR hc hb hp K hK
            (try simp [Region.binds] at hp)
            clear hc
            have hec := (hE.at_ 44 151 (by kernel_rfl)).trans (hR.s44 (by simp [hp]))
            by_cases hP : P4 = true
            · have e67 := (hE.at_ 67 174 (by kernel_rfl)).trans (hR.s67 (by simp [hp]) hP)
              have ec := hE.const
              clear hE
              rw [hP] at hec
              go_simp
              exact hK _ _ { hR with s68 := fun _ => congrArg Value.bool (HPi.out hP) }
            · have hP2 : P4 = false := by simpa using hP
              have ec := hE.const
              clear hE
              rw [hP2] at hec
              go_simp
              exact hK _ _ { hR with s68 := fun _ => congrArg Value.bool (HPj.out hP2).symm }
        case hfin20 =>
          intro b9 v w9 hall hR
          have e68 := hR.s68 (hall 68 (by decide))
          have HX := Lib.hid hR.bel
          clear hR hall
          rw [puts_range (by kernel_rfl) 107 69 (by kernel_rfl) (of_decide_eq_true (by kernel_rfl)) v [v 0, v 1, v 2, v 3, v 4, v 5, v 6, v 7, v 8, v 9, v 10, v 11, v 12, v 13, v 14, v 15, v 16, v 17, v 18, v 19, v 20, v 21, v 22, v 23, v 24, v 25, v 26, v 27, v 28, v 29, v 30, v 31, v 32, v 33, v 34, v 35, v 36, v 37, v 38, v 39, v 40, v 41, v 42, v 43, v 44, v 45, v 46, v 47, v 48, v 49, v 50, v 51, v 52, v 53, v 54, v 55, v 56, v 57, v 58, v 59, v 60, v 61, v 62, v 63, v 64, v 65, v 66, v 67, v 68] rfl]
          simp only [List.take_succ_cons, List.take_zero, List.drop_succ_cons, List.drop_zero, List.cons_append, List.nil_append]
          rw [e68]
          go_wp2_with fail
          (try go_simp)
          go_meet
          exact ⟨A, A2, cap, cap2, ⟨xs, n, tk, bs⟩, HFX.out, HU2.out.later HX.out⟩
end Go.Proofs.YthgpmnblkhehkaaDoor
