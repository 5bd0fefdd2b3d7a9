/- The reference's device: Blank; the two devices compared (tools/mksame.py). -/
import Derived.Test.YthgpmnblkhehkaaDoorROf
import Derived.Test.YthgpmnblkhehkaaDoorDev5
import Derived.Test.YthgpmnblkhehkaaDoorWireWalks
namespace Go.Proofs.YthgpmnblkhehkaaDoor
open Go.RowKit

set_option maxHeartbeats 1000000 in
theorem rblank_any (S : Nat) (hS : 1 ≤ S) (hS2 : S ≤ 1048576) (w : World) :
    Calls Tryd.prog 20 #[.int .i64 (S : Int)] w fun e w' => ∃ d g1 g2 g3 c1 c2, e = .returned (.pointer (some ⟨d, 0, none⟩)) ∧ Rv w' d g1 g2 g3 S c1 c2 S (freshS (List.replicate (S * 64) 0)) 0 ∧ w.heap.size ≤ d ∧ w.heap.size ≤ g1 ∧ w.heap.size ≤ g2 ∧ w.heap.size ≤ g3 ∧ Below w.heap.size w w' := by
  have LD := Lib.hid (fun (w1 : World) (h : Byt w1 w1.heap.size (some ⟨w.heap.size, 0, none⟩) (S * 64) (List.replicate (S * 64) 0)) => rof_any _ _ S (S * 64) w1.heap.size w1 (S * 64) rfl h hS hS2 (Nat.le_refl _))
  have b1 : (S : Int) ≤ 1048576 := by omega
  have b2 : 0 ≤ (S : Int) := by omega
  have HS : Hid (S ≤ 1048576) := hS2
  clear hS hS2
  go_enter Tryd.func20, Tryd.ntmps20
  go_wp2_with (first
    | (at_make; refine wpList_make_byt rfl Tryd.u8w (.tmp 4) (.tmp 4) rfl ((S : Int) * 64) (S * 64) rfl rfl (by omega) (by have := HS.out; omega) ?_; intro w1 hown hbel; have HO := Lib.hid hown; have HB := Lib.hid hbel; clear hown hbel)
    | (go_at_call 43; refine (LD.out _ HO.out.byt).mono ?_; rintro e w2 ⟨d, g1, g2, g3, c1, c2, rfl, hdv, h0, h1, h2, h3, hbel⟩; have HD := Lib.hid (And.intro hdv (And.intro h0 (And.intro h1 (And.intro h2 (And.intro h3 hbel))))); clear hdv h0 h1 h2 h3 hbel))
  go_ret
  obtain ⟨q1, q2, q3, q4, q5, q6⟩ := HD.out
  have hs := HB.out.size
  exact ⟨d, g1, g2, g3, c1, c2, rfl, q1, by omega, by omega, by omega, by omega, HB.out.trans (q6.mono hs)⟩

/-- Same's statement: what has come up (bb), what the temporaries hold (v). -/
structure RSame (w0 : World) (d m S g2 g3 e2 e3 N ND wr : Nat) (dead : Bool) (img : List UInt8) (bb : Nat → Bool) (v : Nat → Value) (w : World) : Prop where
  bel : Below w0.heap.size w0 w
  s0 : bb 0 = true → v 0 = .pointer (some ⟨d, 0, none⟩)
  s1 : bb 1 = true → v 1 = .int .i64 (S : Int)
  s2 : bb 2 = true → v 2 = .pointer (some ⟨m, 0, none⟩)
  s3 : bb 3 = true → v 3 = .pointer (some ⟨m, 0, none⟩)
  s4 : bb 4 = true → v 4 = .pointer (some ⟨m, 2, none⟩)
  s5 : bb 5 = true → v 5 = .slice (some ⟨g3, 0, none⟩) S e3
  s6 : bb 6 = true → v 6 = .int .i64 (S : Int)
  s7 : bb 7 = true → v 7 = .bool true
  s8 : bb 8 = true → v 8 = .bool true
  s9 : bb 9 = true → v 9 = .pointer (some ⟨d, 0, none⟩)
  s10 : bb 10 = true → v 10 = .int .i64 (ND : Int)
  s11 : bb 11 = true → v 11 = .pointer (some ⟨m, 0, none⟩)
  s12 : bb 12 = true → v 12 = .int .i64 (ND : Int)
  s13 : bb 13 = true → v 13 = .bool true
  s14 : bb 14 = true → v 14 = .bool true
  s15 : bb 15 = true → v 15 = .bool true
  s16 : bb 16 = true → v 16 = .pointer (some ⟨d, 0, none⟩)
  s17 : bb 17 = true → v 17 = .bool dead
  s18 : bb 18 = true → v 18 = .pointer (some ⟨m, 0, none⟩)
  s19 : bb 19 = true → v 19 = .pointer (some ⟨m, 0, none⟩)
  s20 : bb 20 = true → v 20 = .pointer (some ⟨m, 5, none⟩)
  s21 : bb 21 = true → v 21 = .bool dead
  s22 : bb 22 = true → v 22 = .bool true
  s23 : bb 23 = true → v 23 = .bool true
  s24 : bb 24 = true → v 24 = .bool true
  s25 : bb 25 = true → v 25 = .pointer (some ⟨d, 0, none⟩)
  s26 : bb 26 = true → v 26 = .int .i64 (wr : Int)
  s27 : bb 27 = true → v 27 = .pointer (some ⟨m, 0, none⟩)
  s28 : bb 28 = true → v 28 = .pointer (some ⟨m, 0, none⟩)
  s29 : bb 29 = true → v 29 = .pointer (some ⟨m, 6, none⟩)
  s30 : bb 30 = true → v 30 = .int .i64 (wr : Int)
  s31 : bb 31 = true → v 31 = .bool true
  s32 : bb 32 = true → v 32 = .bool true
  s33 : bb 33 = true → v 33 = .bool true
  s34 : bb 34 = true → v 34 = .pointer (some ⟨d, 0, none⟩)
  s36 : bb 36 = true → v 36 = .pointer (some ⟨m, 0, none⟩)
  s37 : bb 37 = true → v 37 = .pointer (some ⟨m, 0, none⟩)
  s38 : bb 38 = true → v 38 = .pointer (some ⟨m, 1, none⟩)
  s39 : bb 39 = true → v 39 = .slice (some ⟨g2, 0, none⟩) N e2
  s40 : bb 40 = true → v 40 = .bool true
  s41 : bb 41 = true → v 41 = .bool true
  s42 : bb 42 = true → v 42 = .bool true
  o35 : bb 35 = true → ∃ A1 c1, v 35 = .slice A1 N c1 ∧ Byt w w.heap.size A1 N img
theorem RSame.later {w0 w w' : World} {d m S g2 g3 e2 e3 N ND wr : Nat} {dead : Bool} {img : List UInt8} {bb : Nat → Bool} {v : Nat → Value} (h : RSame w0 d m S g2 g3 e2 e3 N ND wr dead img bb v w) (hb : Below w.heap.size w w') : RSame w0 d m S g2 g3 e2 e3 N ND wr dead img bb v w' :=
  { h with
    bel := h.bel.trans (hb.mono h.bel.size)
    o35 := fun e => let ⟨A1, c1, q1, q2⟩ := h.o35 e; ⟨A1, c1, q1, (q2.below hb).more hb.size⟩ }
set_option maxRecDepth 100000 in
set_option maxHeartbeats 4000000 in
theorem same_any {w : World} {d g r S c m g1 g2 g3 c1 c2 c3 : Nat} {s : DS} {lf : Int} (hD : Dv w d g r S c s) (hM : Rv w m g1 g2 g3 S c1 c2 c3 s lf) :
    Calls Tryd.prog 24 #[.pointer (some ⟨d, 0, none⟩), .pointer (some ⟨m, 0, none⟩)] w fun e w' => e = .returned (.bool true) ∧ Below w.heap.size w w' := by
  obtain ⟨ND, hND⟩ : ∃ k, s.ds.length = k := ⟨_, rfl⟩
  obtain ⟨wr, hwr⟩ : ∃ k, s.wr = k := ⟨_, rfl⟩
  obtain ⟨dead, hdead⟩ : ∃ k, s.dead = k := ⟨_, rfl⟩
  obtain ⟨img, himg⟩ : ∃ k, s.img = k := ⟨_, rfl⟩
  obtain ⟨N, hN⟩ : ∃ N, S * 64 = N := ⟨_, rfl⟩
  have hS := hD.sz
  have CS : Hid (∀ wx, Below w.heap.size w wx → Calls Tryd.prog 47 #[.pointer (some ⟨d, 0, none⟩)] wx fun e w' => e = .returned (.int .i64 (S : Int)) ∧ Below wx.heap.size wx w') := fun wx hb => (dsectors_any (hD.below hb)).mono fun e w' ⟨h1, h2⟩ => ⟨h1, h2 ▸ Below.refl _ _⟩
  have CD : Hid (∀ wx, Below w.heap.size w wx → Calls Tryd.prog 10 #[.pointer (some ⟨d, 0, none⟩)] wx fun e w' => e = .returned (.int .i64 (ND : Int)) ∧ Below wx.heap.size wx w') := fun wx hb => (ddirty_any (hD.below hb)).mono fun e w' ⟨h1, h2⟩ => ⟨by rw [h1, hND], h2 ▸ Below.refl _ _⟩
  have CE : Hid (∀ wx, Below w.heap.size w wx → Calls Tryd.prog 48 #[.pointer (some ⟨m, 0, none⟩)] wx fun e w' => e = .returned (.int .i64 (ND : Int)) ∧ Below wx.heap.size wx w') := fun wx hb => (rdirty_any (hM.below hb)).mono fun e w' ⟨h1, h2⟩ => ⟨by rw [h1, hND], h2 ▸ Below.refl _ _⟩
  have CX : Hid (∀ wx, Below w.heap.size w wx → Calls Tryd.prog 49 #[.pointer (some ⟨d, 0, none⟩)] wx fun e w' => e = .returned (.bool dead) ∧ Below wx.heap.size wx w') := fun wx hb => (ddead_any (hD.below hb)).mono fun e w' ⟨h1, h2⟩ => ⟨by rw [h1, hdead], h2 ▸ Below.refl _ _⟩
  have CW : Hid (∀ wx, Below w.heap.size w wx → Calls Tryd.prog 13 #[.pointer (some ⟨d, 0, none⟩)] wx fun e w' => e = .returned (.int .i64 (wr : Int)) ∧ Below wx.heap.size wx w') := fun wx hb => (dwrites_any (hD.below hb)).mono fun e w' ⟨h1, h2⟩ => ⟨by rw [h1, hwr], h2 ▸ Below.refl _ _⟩
  have CI : Hid (∀ wx, Below w.heap.size w wx → Calls Tryd.prog 50 #[.pointer (some ⟨d, 0, none⟩)] wx fun e w' => ∃ A1 c1, e = .returned (.slice A1 N c1) ∧ Byt w' w'.heap.size A1 N img ∧ Below wx.heap.size wx w') := fun wx hb => by
    rw [← hN, ← himg]; exact dimage_any (hD.below hb)
  have CQ : Hid (∀ wx, Below w.heap.size w wx → ∀ A1 e1, Byt wx wx.heap.size A1 N img → Calls Tryd.prog 27 #[.slice A1 N e1, .slice (some ⟨g2, 0, none⟩) N c2] wx fun e w' => e = .returned (.bool true) ∧ Below wx.heap.size wx w') := fun wx hb A1 e1 hby => by
    have h2 := (hM.below hb).new
    rw [hN, himg] at h2
    refine (eq_any img img A1 (some ⟨g2, 0, none⟩) N N e1 c2 _ _ wx hby h2 (by omega) (by omega)).mono ?_
    rintro e w' ⟨h1, k, h3⟩
    exact ⟨by rw [h1, decide_eq_true rfl], h3 ▸ below_drewN (Below.refl _ _) k⟩
  have HRV : Hid (Cells w m [.slice (some ⟨g1, 0, none⟩) N c1, .slice (some ⟨g2, 0, none⟩) N c2, .slice (some ⟨g3, 0, none⟩) S c3, .bool (decide (0 ≤ s.fu)), .int .i64 lf, .bool dead, .int .i64 (wr : Int)]) := by
    have h := hM.cells
    rw [hN, hwr, hdead] at h
    exact h
  have hlt := Lib.hid HRV.out.lt
  have hbS : (0 : Int) ≤ S ∧ (S : Int) ≤ 1048576 := by omega
  clear hD hM hS hND hwr hdead himg hN
  go_enter Tryd.func24, Tryd.ntmps24
  go_upto_region 1 with fail
  refine wp_region_inv (F := ?F) (RSame w d m S g2 g3 c2 c3 N ND wr dead img) id ?hF (by kernel_rfl) (by kernel_rfl) ?ha ?h0 ?hs ?hfin
  case hF =>
    intro v
    simp only [putsAll, Act.put, List.setIfInBounds_toArray, List.set_cons_zero, List.set_cons_succ]
    rfl
  case ha =>
    simp only [putsAll, Act.put, List.setIfInBounds_toArray, List.set_cons_zero, List.set_cons_succ]
    rfl
  case h0 =>
    exact { bel := Below.drew (Below.refl _ _), s0 := nofun, s1 := nofun, s2 := nofun, s3 := nofun, s4 := nofun, s5 := nofun, s6 := nofun, s7 := nofun, s8 := nofun, s9 := nofun, s10 := nofun, s11 := nofun, s12 := nofun, s13 := nofun, s14 := nofun, s15 := nofun, s16 := nofun, s17 := nofun, s18 := nofun, s19 := nofun, s20 := nofun, s21 := nofun, s22 := nofun, s23 := nofun, s24 := nofun, s25 := nofun, s26 := nofun, s27 := nofun, s28 := nofun, s29 := nofun, s30 := nofun, s31 := nofun, s32 := nofun, s33 := nofun, s34 := nofun, s36 := nofun, s37 := nofun, s38 := nofun, s39 := nofun, s40 := nofun, s41 := nofun, s42 := nofun, o35 := nofun }
  case hs =>
    refine ⟨?_, ?_, ?_, ?_, ?_, ?_, ?_, ?_, ?_, ?_, ?_, ?_, ?_, ?_, ?_, ?_, ?_, ?_, ?_, ?_, ?_, ?_, ?_, ?_, ?_, ?_, ?_, ?_, ?_, ?_, ?_, ?_, ?_, ?_, ?_, ?_, ?_, ?_, ?_, ?_, ?_, ?_, ?_, trivial⟩
    · intro b9 v w9 hR hc hb hp K hK
      (try simp [Region.binds] at hp)
      clear hc
      go_simp
      exact hK (upd v 0 _) _ { hR with s0 := fun _ => rfl }
    · intro b9 v w9 hR hc hb hp K hK
      (try simp [Region.binds] at hp)
      clear hc
      have e0 := hR.s0 (by simp [hp])
      have hbl := hR.bel
      go_simp
      go_wp2_with (go_at_call 47; refine (CS.out _ hbl).mono ?_; rintro e w6 ⟨rfl, hb6⟩)
      exact hK (upd (upd v 1 _) 0 _) _ { RSame.later hR hb6 with bel := hR.bel.trans (hb6.mono hR.bel.size), s1 := fun _ => rfl, s0 := fun _ => rfl }
    · intro b9 v w9 hR hc hb hp K hK
      (try simp [Region.binds] at hp)
      clear hc
      go_simp
      exact hK (upd v 2 _) _ { hR with s2 := fun _ => rfl }
    · intro b9 v w9 hR hc hb hp K hK
      (try simp [Region.binds] at hp)
      clear hc
      have e2 := hR.s2 (by simp [hp])
      go_simp
      exact hK (upd (upd v 3 _) 2 _) _ { hR with s3 := fun _ => rfl, s2 := fun _ => rfl }
    · intro b9 v w9 hR hc hb hp K hK
      (try simp [Region.binds] at hp)
      clear hc
      have e3 := hR.s3 (by simp [hp])
      go_simp
      exact hK (upd (upd v 4 _) 3 _) _ { hR with s4 := fun _ => rfl, s3 := fun _ => rfl }
    · intro b9 v w9 hR hc hb hp K hK
      (try simp [Region.binds] at hp)
      clear hc
      have e4 := hR.s4 (by simp [hp])
      have hbl := hR.bel
      have y := (HRV.out.below hbl hlt.out) 2 _ rfl
      go_simp
      exact hK (upd (upd v 5 _) 4 _) _ { hR with s5 := fun _ => rfl, s4 := fun _ => rfl }
    · intro b9 v w9 hR hc hb hp K hK
      (try simp [Region.binds] at hp)
      clear hc
      have e5 := hR.s5 (by simp [hp])
      go_simp
      exact hK (upd (upd v 6 _) 5 _) _ { hR with s6 := fun _ => rfl, s5 := fun _ => rfl }
    · intro b9 v w9 hR hc hb hp K hK
      (try simp [Region.binds] at hp)
      clear hc
      have e1 := hR.s1 (by simp [hp])
      have e6 := hR.s6 (by simp [hp])
      go_simp
      exact hK (upd (upd (upd v 7 _) 1 _) 6 _) _ { hR with s7 := fun _ => rfl, s1 := fun _ => rfl, s6 := fun _ => rfl }
    · intro b9 v w9 hR hc hb hp K hK
      (try simp [Region.binds] at hp)
      clear hc
      have e7 := hR.s7 (by simp [hp])
      go_simp
      exact hK (upd (upd v 8 _) 7 _) _ { hR with s8 := fun _ => rfl, s7 := fun _ => rfl }
    · intro b9 v w9 hR hc hb hp K hK
      (try simp [Region.binds] at hp)
      clear hc
      have e8 := hR.s8 (by simp [hp])
      go_simp
      exact hK (upd (upd v 9 _) 8 _) _ { hR with s9 := fun _ => rfl, s8 := fun _ => rfl }
    · intro b9 v w9 hR hc hb hp K hK
      (try simp [Region.binds] at hp)
      clear hc
      have e9 := hR.s9 (by simp [hp])
      have e8 := hR.s8 (by simp [hp])
      have hbl := hR.bel
      go_simp
      go_wp2_with (go_at_call 10; refine (CD.out _ hbl).mono ?_; rintro e w6 ⟨rfl, hb6⟩)
      exact hK (upd (upd (upd v 10 _) 9 _) 8 _) _ { RSame.later hR hb6 with bel := hR.bel.trans (hb6.mono hR.bel.size), s10 := fun _ => rfl, s9 := fun _ => rfl, s8 := fun _ => rfl }
    · intro b9 v w9 hR hc hb hp K hK
      (try simp [Region.binds] at hp)
      clear hc
      have e8 := hR.s8 (by simp [hp])
      go_simp
      exact hK (upd (upd v 11 _) 8 _) _ { hR with s11 := fun _ => rfl, s8 := fun _ => rfl }
    · intro b9 v w9 hR hc hb hp K hK
      (try simp [Region.binds] at hp)
      clear hc
      have e11 := hR.s11 (by simp [hp])
      have e8 := hR.s8 (by simp [hp])
      have hbl := hR.bel
      go_simp
      go_wp2_with (go_at_call 48; refine (CE.out _ hbl).mono ?_; rintro e w6 ⟨rfl, hb6⟩)
      exact hK (upd (upd (upd v 12 _) 11 _) 8 _) _ { RSame.later hR hb6 with bel := hR.bel.trans (hb6.mono hR.bel.size), s12 := fun _ => rfl, s11 := fun _ => rfl, s8 := fun _ => rfl }
    · intro b9 v w9 hR hc hb hp K hK
      (try simp [Region.binds] at hp)
      clear hc
      have e10 := hR.s10 (by simp [hp])
      have e12 := hR.s12 (by simp [hp])
      have e8 := hR.s8 (by simp [hp])
      go_simp
      exact hK (upd (upd (upd (upd v 13 _) 10 _) 12 _) 8 _) _ { hR with s13 := fun _ => rfl, s10 := fun _ => rfl, s12 := fun _ => rfl, s8 := fun _ => rfl }
    · intro b9 v w9 hR hc hb hp K hK
      (try simp [Region.binds] at hp)
      clear hc
      have e8 := hR.s8 (by simp [hp])
      have e13 := hR.s13 (by simp [hp])
      go_simp
      exact hK (upd (upd (upd v 14 _) 8 _) 13 _) _ { hR with s14 := fun _ => rfl, s8 := fun _ => rfl, s13 := fun _ => rfl }
    · intro b9 v w9 hR hc hb hp K hK
      (try simp [Region.binds] at hp)
      clear hc
      have e14 := hR.s14 (by simp [hp])
      go_simp
      exact hK (upd (upd v 15 _) 14 _) _ { hR with s15 := fun _ => rfl, s14 := fun _ => rfl }
    · intro b9 v w9 hR hc hb hp K hK
      (try simp [Region.binds] at hp)
      clear hc
      have e15 := hR.s15 (by simp [hp])
      go_simp
      exact hK (upd (upd v 16 _) 15 _) _ { hR with s16 := fun _ => rfl, s15 := fun _ => rfl }
    · intro b9 v w9 hR hc hb hp K hK
      (try simp [Region.binds] at hp)
      clear hc
      have e16 := hR.s16 (by simp [hp])
      have e15 := hR.s15 (by simp [hp])
      have hbl := hR.bel
      go_simp
      go_wp2_with (go_at_call 49; refine (CX.out _ hbl).mono ?_; rintro e w6 ⟨rfl, hb6⟩)
      exact hK (upd (upd (upd v 17 _) 16 _) 15 _) _ { RSame.later hR hb6 with bel := hR.bel.trans (hb6.mono hR.bel.size), s17 := fun _ => rfl, s16 := fun _ => rfl, s15 := fun _ => rfl }
    · intro b9 v w9 hR hc hb hp K hK
      (try simp [Region.binds] at hp)
      clear hc
      have e15 := hR.s15 (by simp [hp])
      go_simp
      exact hK (upd (upd v 18 _) 15 _) _ { hR with s18 := fun _ => rfl, s15 := fun _ => rfl }
    · intro b9 v w9 hR hc hb hp K hK
      (try simp [Region.binds] at hp)
      clear hc
      have e18 := hR.s18 (by simp [hp])
      have e15 := hR.s15 (by simp [hp])
      go_simp
      exact hK (upd (upd (upd v 19 _) 18 _) 15 _) _ { hR with s19 := fun _ => rfl, s18 := fun _ => rfl, s15 := fun _ => rfl }
    · intro b9 v w9 hR hc hb hp K hK
      (try simp [Region.binds] at hp)
      clear hc
      have e19 := hR.s19 (by simp [hp])
      have e15 := hR.s15 (by simp [hp])
      go_simp
      exact hK (upd (upd (upd v 20 _) 19 _) 15 _) _ { hR with s20 := fun _ => rfl, s19 := fun _ => rfl, s15 := fun _ => rfl }
    · intro b9 v w9 hR hc hb hp K hK
      (try simp [Region.binds] at hp)
      clear hc
      have e20 := hR.s20 (by simp [hp])
      have e15 := hR.s15 (by simp [hp])
      have hbl := hR.bel
      have y := (HRV.out.below hbl hlt.out) 5 _ rfl
      go_simp
      exact hK (upd (upd (upd v 21 _) 20 _) 15 _) _ { hR with s21 := fun _ => rfl, s20 := fun _ => rfl, s15 := fun _ => rfl }
    · intro b9 v w9 hR hc hb hp K hK
      (try simp [Region.binds] at hp)
      clear hc
      have e17 := hR.s17 (by simp [hp])
      have e21 := hR.s21 (by simp [hp])
      have e15 := hR.s15 (by simp [hp])
      go_simp
      exact hK (upd (upd (upd (upd v 22 _) 17 _) 21 _) 15 _) _ { hR with s22 := fun _ => rfl, s17 := fun _ => rfl, s21 := fun _ => rfl, s15 := fun _ => rfl }
    · intro b9 v w9 hR hc hb hp K hK
      (try simp [Region.binds] at hp)
      clear hc
      have e15 := hR.s15 (by simp [hp])
      have e22 := hR.s22 (by simp [hp])
      go_simp
      exact hK (upd (upd (upd v 23 _) 15 _) 22 _) _ { hR with s23 := fun _ => rfl, s15 := fun _ => rfl, s22 := fun _ => rfl }
    · intro b9 v w9 hR hc hb hp K hK
      (try simp [Region.binds] at hp)
      clear hc
      have e23 := hR.s23 (by simp [hp])
      go_simp
      exact hK (upd (upd v 24 _) 23 _) _ { hR with s24 := fun _ => rfl, s23 := fun _ => rfl }
    · intro b9 v w9 hR hc hb hp K hK
      (try simp [Region.binds] at hp)
      clear hc
      have e24 := hR.s24 (by simp [hp])
      go_simp
      exact hK (upd (upd v 25 _) 24 _) _ { hR with s25 := fun _ => rfl, s24 := fun _ => rfl }
    · intro b9 v w9 hR hc hb hp K hK
      (try simp [Region.binds] at hp)
      clear hc
      have e25 := hR.s25 (by simp [hp])
      have e24 := hR.s24 (by simp [hp])
      have hbl := hR.bel
      go_simp
      go_wp2_with (go_at_call 13; refine (CW.out _ hbl).mono ?_; rintro e w6 ⟨rfl, hb6⟩)
      exact hK (upd (upd (upd v 26 _) 25 _) 24 _) _ { RSame.later hR hb6 with bel := hR.bel.trans (hb6.mono hR.bel.size), s26 := fun _ => rfl, s25 := fun _ => rfl, s24 := fun _ => rfl }
    · intro b9 v w9 hR hc hb hp K hK
      (try simp [Region.binds] at hp)
      clear hc
      have e24 := hR.s24 (by simp [hp])
      go_simp
      exact hK (upd (upd v 27 _) 24 _) _ { hR with s27 := fun _ => rfl, s24 := fun _ => rfl }
    · intro b9 v w9 hR hc hb hp K hK
      (try simp [Region.binds] at hp)
      clear hc
      have e27 := hR.s27 (by simp [hp])
      have e24 := hR.s24 (by simp [hp])
      go_simp
      exact hK (upd (upd (upd v 28 _) 27 _) 24 _) _ { hR with s28 := fun _ => rfl, s27 := fun _ => rfl, s24 := fun _ => rfl }
    · intro b9 v w9 hR hc hb hp K hK
      (try simp [Region.binds] at hp)
      clear hc
      have e28 := hR.s28 (by simp [hp])
      have e24 := hR.s24 (by simp [hp])
      go_simp
      exact hK (upd (upd (upd v 29 _) 28 _) 24 _) _ { hR with s29 := fun _ => rfl, s28 := fun _ => rfl, s24 := fun _ => rfl }
    · intro b9 v w9 hR hc hb hp K hK
      (try simp [Region.binds] at hp)
      clear hc
      have e29 := hR.s29 (by simp [hp])
      have e24 := hR.s24 (by simp [hp])
      have hbl := hR.bel
      have y := (HRV.out.below hbl hlt.out) 6 _ rfl
      go_simp
      exact hK (upd (upd (upd v 30 _) 29 _) 24 _) _ { hR with s30 := fun _ => rfl, s29 := fun _ => rfl, s24 := fun _ => rfl }
    · intro b9 v w9 hR hc hb hp K hK
      (try simp [Region.binds] at hp)
      clear hc
      have e26 := hR.s26 (by simp [hp])
      have e30 := hR.s30 (by simp [hp])
      have e24 := hR.s24 (by simp [hp])
      go_simp
      exact hK (upd (upd (upd (upd v 31 _) 26 _) 30 _) 24 _) _ { hR with s31 := fun _ => rfl, s26 := fun _ => rfl, s30 := fun _ => rfl, s24 := fun _ => rfl }
    · intro b9 v w9 hR hc hb hp K hK
      (try simp [Region.binds] at hp)
      clear hc
      have e24 := hR.s24 (by simp [hp])
      have e31 := hR.s31 (by simp [hp])
      go_simp
      exact hK (upd (upd (upd v 32 _) 24 _) 31 _) _ { hR with s32 := fun _ => rfl, s24 := fun _ => rfl, s31 := fun _ => rfl }
    · intro b9 v w9 hR hc hb hp K hK
      (try simp [Region.binds] at hp)
      clear hc
      have e32 := hR.s32 (by simp [hp])
      go_simp
      exact hK (upd (upd v 33 _) 32 _) _ { hR with s33 := fun _ => rfl, s32 := fun _ => rfl }
    · intro b9 v w9 hR hc hb hp K hK
      (try simp [Region.binds] at hp)
      clear hc
      have e33 := hR.s33 (by simp [hp])
      go_simp
      exact hK (upd (upd v 34 _) 33 _) _ { hR with s34 := fun _ => rfl, s33 := fun _ => rfl }
    · intro b9 v w9 hR hc hb hp K hK
      (try simp [Region.binds] at hp)
      have h40 : b9 40 = false := hc.neg (by kernel_rfl) hb
      clear hc
      have e34 := hR.s34 (by simp [hp])
      have e33 := hR.s33 (by simp [hp])
      have hbl := hR.bel
      go_simp
      go_wp2_with (go_at_call 50; refine (CI.out _ hbl).mono ?_; rintro e w6 ⟨A1, c1, rfl, hby, hb6⟩)
      exact hK (upd (upd (upd v 35 _) 34 _) 33 _) _ { RSame.later hR hb6 with bel := hR.bel.trans (hb6.mono hR.bel.size), s34 := fun _ => rfl, s33 := fun _ => rfl, o35 := fun _ => ⟨A1, c1, rfl, hby⟩ }
    · intro b9 v w9 hR hc hb hp K hK
      (try simp [Region.binds] at hp)
      clear hc
      have e33 := hR.s33 (by simp [hp])
      go_simp
      exact hK (upd (upd v 36 _) 33 _) _ { hR with s36 := fun _ => rfl, s33 := fun _ => rfl }
    · intro b9 v w9 hR hc hb hp K hK
      (try simp [Region.binds] at hp)
      clear hc
      have e36 := hR.s36 (by simp [hp])
      have e33 := hR.s33 (by simp [hp])
      go_simp
      exact hK (upd (upd (upd v 37 _) 36 _) 33 _) _ { hR with s37 := fun _ => rfl, s36 := fun _ => rfl, s33 := fun _ => rfl }
    · intro b9 v w9 hR hc hb hp K hK
      (try simp [Region.binds] at hp)
      clear hc
      have e37 := hR.s37 (by simp [hp])
      have e33 := hR.s33 (by simp [hp])
      go_simp
      exact hK (upd (upd (upd v 38 _) 37 _) 33 _) _ { hR with s38 := fun _ => rfl, s37 := fun _ => rfl, s33 := fun _ => rfl }
    · intro b9 v w9 hR hc hb hp K hK
      (try simp [Region.binds] at hp)
      clear hc
      have e38 := hR.s38 (by simp [hp])
      have e33 := hR.s33 (by simp [hp])
      have hbl := hR.bel
      have y := (HRV.out.below hbl hlt.out) 1 _ rfl
      go_simp
      exact hK (upd (upd (upd v 39 _) 38 _) 33 _) _ { hR with s39 := fun _ => rfl, s38 := fun _ => rfl, s33 := fun _ => rfl }
    · intro b9 v w9 hR hc hb hp K hK
      (try simp [Region.binds] at hp)
      clear hc
      obtain ⟨A1, c1, e35, hby⟩ := hR.o35 (by simp [hp])
      have e39 := hR.s39 (by simp [hp])
      have e33 := hR.s33 (by simp [hp])
      have hbl := hR.bel
      go_simp
      go_wp2_with (go_at_call 27; refine (CQ.out _ hbl A1 c1 hby).mono ?_; rintro e w6 ⟨rfl, hb6⟩)
      exact hK (upd (upd (upd (upd v 40 _) 35 _) 39 _) 33 _) _ { RSame.later hR hb6 with bel := hR.bel.trans (hb6.mono hR.bel.size), s40 := fun _ => rfl, s39 := fun _ => rfl, s33 := fun _ => rfl, o35 := fun _ => ⟨A1, c1, rfl, (hby.below hb6).more hb6.size⟩ }
    · intro b9 v w9 hR hc hb hp K hK
      (try simp [Region.binds] at hp)
      clear hc
      have e33 := hR.s33 (by simp [hp])
      have e40 := hR.s40 (by simp [hp])
      go_simp
      exact hK (upd (upd (upd v 41 _) 33 _) 40 _) _ { hR with s41 := fun _ => rfl, s33 := fun _ => rfl, s40 := fun _ => rfl }
    · intro b9 v w9 hR hc hb hp K hK
      (try simp [Region.binds] at hp)
      clear hc
      have e41 := hR.s41 (by simp [hp])
      go_simp
      exact hK (upd (upd v 42 _) 41 _) _ { hR with s42 := fun _ => rfl, s41 := fun _ => rfl }
  case hfin =>
    intro b9 v w9 hall hR
    have e42 := hR.s42 (hall 42 (by decide))
    have HX := Lib.hid hR.bel
    clear hR hall
    go_wp2_with fail
    go_ret
    exact ⟨(by show Ending.returned (v 42) = _; rw [e42]), HX.out⟩
end Go.Proofs.YthgpmnblkhehkaaDoor
