/- The reference's device: Barrier, Of, Blank. -/
import Derived.Test.YthgpmnblkhehkaaDoorRDev3
import Derived.Deep.DeepCutAuto
namespace Go.Proofs.YthgpmnblkhehkaaDoor
open Go.RowKit
section
variable {w w' : World} {d g1 g2 g3 S c1 c2 c3 : Nat} {s : DS} {lf : Int}
/-- The flags while they are cleared from the front. -/
def DirtK (w : World) (g3 S k : Nat) (ds : List Nat) : Prop := ∀ j, j < S → w.cell? ⟨g3, j, none⟩ = some (.bool (if j < k then false else decide (j ∈ ds)))
/-- The old contents become the new ones. -/
theorem Rv.setOld {vs : List UInt8} (h : Rv w d g1 g2 g3 S c1 c2 c3 s lf) (hl : vs.length = S * 64) : Rv (w.setCells g1 0 (bytes vs)) d g1 g2 g3 S c1 c2 c3 s lf ∧ Keep w (w.setCells g1 0 (bytes vs)) (rvL d g1 g2 g3) := by
  obtain ⟨n1, n2, n3, n4, n5, n6⟩ := h.ne
  obtain ⟨ob, hob⟩ := h.old
  obtain ⟨o1, o2, o3, o4⟩ := setCells_rest g1 (bytes vs) 0 w
  have hb : ∀ k, k ≠ g1 → (w.setCells g1 0 (bytes vs)).heap[k]? = w.heap[k]? := fun k hk => setCells_block g1 _ 0 w k hk
  have hth : w.there g1 0 (bytes vs).length := fun j hj => by
    rw [bytes_len, hl] at hj
    refine ⟨?_, by rw [Nat.zero_add]; exact h.s1 j⟩
    obtain ⟨ad, b, e, _, _, hc⟩ := hob.get hj
    injection e with e
    subst e
    rw [Addr.add_mid] at hc
    rw [hc]; rfl
  have hnew : Byt (w.setCells g1 0 (bytes vs)) (g1 + 1) (some ⟨g1, 0, none⟩) (S * 64) vs := by
    have := range_byt (World.rangeAt_setCells_same w g1 0 (bytes vs) hth)
    rw [hl] at this
    exact this
  exact ⟨⟨h.cells.same (hb d n1), h.sd.same (hb d n1), fun j => by rw [World.frozen?_setCells]; exact h.s1 j, h.s2.same (hb g2 (Ne.symm n4)), h.s3.same (hb g3 (Ne.symm n5)), ⟨vs, hnew⟩, byt_block h.new (hb g2 (Ne.symm n4)), fun j hj => (World.cell?_of_block (a := ⟨g3, j, none⟩) (hb g3 (Ne.symm n5))).trans (h.dirt j hj), h.left, h.i64, h.ne, h.ok, h.sz⟩,
    ⟨o1, o2, o3, by rw [o4]; exact Nat.le_refl _, fun k _ hk => hb k (fun e => hk (.inr (.inl e)))⟩⟩
theorem there_old (h : Rv w d g1 g2 g3 S c1 c2 c3 s lf) : w.there g1 0 (S * 64) := fun j hj => by
  obtain ⟨ob, hob⟩ := h.old
  refine ⟨?_, by rw [Nat.zero_add]; exact h.s1 j⟩
  obtain ⟨ad, b, e, _, _, hc⟩ := hob.get hj
  injection e with e
  subst e
  rw [Addr.add_mid] at hc
  rw [hc]; rfl
/-- What was dirty up to k is no longer. -/
theorem Rv.clearTo {k : Nat} (h : Rv w d g1 g2 g3 S c1 c2 c3 { s with ds := s.ds.filter fun j => decide (k ≤ j) } lf) (hk : k < S) :
    Rv (w.setCell ⟨g3, k, none⟩ (.bool false)) d g1 g2 g3 S c1 c2 c3 { s with ds := s.ds.filter fun j => decide (k + 1 ≤ j) } lf ∧ Keep w (w.setCell ⟨g3, k, none⟩ (.bool false)) (rvL d g1 g2 g3) := by
  refine h.setFlag (ds' := s.ds.filter fun j => decide (k + 1 ≤ j)) (b := false) hk (fun j _ => ?_) ?_ ?_
  · show decide (j ∈ s.ds.filter fun j => decide (k + 1 ≤ j)) = if j = k then false else decide (j ∈ s.ds.filter fun j => decide (k ≤ j))
    by_cases e : j = k
    · rw [if_pos e, e]
      exact decide_eq_false (by simp [List.mem_filter])
    · rw [if_neg e, decide_eq_decide]
      simp only [List.mem_filter, decide_eq_true_eq]
      constructor
      · rintro ⟨a, b⟩; exact ⟨a, by omega⟩
      · rintro ⟨a, b⟩; exact ⟨a, by omega⟩
  · have := h.ok.nd
    have e : (s.ds.filter fun j => decide (k + 1 ≤ j)) = (s.ds.filter fun j => decide (k ≤ j)).filter fun j => decide (k + 1 ≤ j) := by
      rw [List.filter_filter]
      apply List.filter_congr
      intro j _
      rw [Bool.eq_iff_iff]
      simp
      omega
    rw [e]
    exact List.Pairwise.filter _ this
  · intro j hj
    have := List.mem_filter.1 hj
    exact h.ok.lt j (List.mem_filter.2 ⟨this.1, by simpa using Nat.le_of_succ_le (by simpa using this.2)⟩)
/-- The new contents are copied over the old: what has come up (bb), what the temporaries hold (v). -/
structure R5 (w0 : World) (d g1 g2 N c1 c2 : Nat) (img : List UInt8) (bb : Nat → Bool) (v : Nat → Value) (w : World) : Prop where
  same : bb 8 = false → w = w0.drew
  fin : bb 8 = true → w = w0.drew.setCells g1 0 (bytes img)
  s0 : bb 0 = true → v 0 = .pointer (some ⟨d, 0, none⟩)
  s1 : bb 1 = true → v 1 = .pointer (some ⟨d, 0, none⟩)
  s2 : bb 2 = true → v 2 = .pointer (some ⟨d, 0, none⟩)
  s3 : bb 3 = true → v 3 = .slice (some ⟨g1, 0, none⟩) N c1
  s4 : bb 4 = true → v 4 = .pointer (some ⟨d, 0, none⟩)
  s5 : bb 5 = true → v 5 = .pointer (some ⟨d, 0, none⟩)
  s6 : bb 6 = true → v 6 = .pointer (some ⟨d, 1, none⟩)
  s7 : bb 7 = true → v 7 = .slice (some ⟨g2, 0, none⟩) N c2
theorem filter_zero (ds : List Nat) : ds.filter (fun j => decide (0 ≤ j)) = ds := by simp
theorem filter_end {S : Nat} {ds : List Nat} (h : ∀ j ∈ ds, j < S) : ds.filter (fun j => decide (S ≤ j)) = [] := by
  rw [List.filter_eq_nil_iff]
  intro j hj
  have := h j hj
  simp; omega

set_option maxRecDepth 100000 in
set_option maxHeartbeats 4000000 in
theorem rbarrier_any (h : Rv w d g1 g2 g3 S c1 c2 c3 s lf) : Calls Tryd.prog 46 #[.pointer (some ⟨d, 0, none⟩)] w fun e w' => e = .returned (.int .i64 (barrierS s).1) ∧ (∃ lf', Rv w' d g1 g2 g3 S c1 c2 c3 (barrierS s).2 lf') ∧ Keep w w' (rvL d g1 g2 g3) := by
  have l5 := h.cells 5 _ rfl
  have HH := Lib.hid h
  by_cases hd : s.dead = true
  · have e : barrierS s = (1, s) := by rw [barrierS, if_pos hd]
    rw [e]
    rw [hd] at l5
    clear h e hd
    go_enter Tryd.func46, Tryd.ntmps46
    go_wp2
    go_ret
    exact ⟨rfl, ⟨_, HH.out⟩, Keep.refl _ _⟩
  have hd' : s.dead = false := by simpa using hd
  have BU := Lib.hid (rburn_any hd' h)
  rw [hd'] at l5
  by_cases hb : (burnS s).dead = true
  · have e : barrierS s = (1, burnS s) := by rw [barrierS, if_neg hd, if_pos hb]
    rw [e]
    have HBD := Lib.hid hb
    clear h e hd hd' hb
    go_enter Tryd.func46, Tryd.ntmps46
    go_wp2_with (go_at_call 64; refine BU.out.mono ?_; rintro e w1 ⟨rfl, hdv, hk⟩; rw [HBD.out]; have HD1 := Lib.hid hdv; have HK1 := Lib.hid hk; clear hdv hk)
    go_ret
    exact ⟨rfl, HD1.out, HK1.out⟩
  have e : barrierS s = (0, { burnS s with ds := [] }) := by rw [barrierS, if_neg hd, if_neg hb]
  rw [e]
  have HBD := Lib.hid (show (burnS s).dead = false by simpa using hb)
  have HSZ := Lib.hid h.sz
  have hS := h.sz
  have b1 : (S : Int) ≤ 1048576 := by omega
  clear h e hd hd' hb hS
  go_enter Tryd.func46, Tryd.ntmps46
  go_upto_region 5 with (go_at_call 64; refine BU.out.mono ?_; rintro e w1 ⟨rfl, ⟨lf1, hdv⟩, hk⟩; rw [HBD.out]; have HD1 := Lib.hid hdv; have HK1 := Lib.hid hk; clear hdv hk)
  have HD1d : Hid (Rv w1.drew d g1 g2 g3 S c1 c2 c3 (burnS s) lf1) := HD1.out.below (Below.drew (Below.refl _ _))
  have HK1d : Hid (Keep w w1.drew (rvL d g1 g2 g3)) := HK1.out.later (Below.drew (Below.refl _ _))
  go_cut [] (fun wx => Rv wx d g1 g2 g3 S c1 c2 c3 (burnS s) lf1 ∧ Keep w wx (rvL d g1 g2 g3))
  case first =>
    refine wp_region_inv (F := ?F) (R5 w1 d g1 g2 (S * 64) c1 c2 (burnS s).img) id ?hF (by kernel_rfl) (by kernel_rfl) ?ha ?h0 ?hs ?hfin
    case hF =>
      intro v
      simp only [putsAll, Act.put, List.setIfInBounds_toArray, List.set_cons_zero, List.set_cons_succ]
      rfl
    case ha =>
      simp only [putsAll, Act.put, List.setIfInBounds_toArray, List.set_cons_zero, List.set_cons_succ]
      rfl
    case h0 =>
      exact { same := fun _ => rfl, fin := nofun, s0 := nofun, s1 := nofun, s2 := nofun, s3 := nofun, s4 := nofun, s5 := nofun, s6 := nofun, s7 := nofun }
    case hs =>
      refine ⟨?_, ?_, ?_, ?_, ?_, ?_, ?_, ?_, ?_, trivial⟩
      · intro b9 v w9 hR hc hb hp K hK
        (try simp [Region.binds] at hp)
        have hlast : b9 8 = false := hc.neg (by kernel_rfl) hb
        clear hc
        have hw9 := hR.same hlast
        subst hw9
        go_simp
        exact hK (upd v 0 _) _ { hR with s0 := fun _ => rfl }
      · intro b9 v w9 hR hc hb hp K hK
        (try simp [Region.binds] at hp)
        have hlast : b9 8 = false := hc.neg (by kernel_rfl) hb
        clear hc
        have e0 := hR.s0 (by simp [hp])
        have hw9 := hR.same hlast
        subst hw9
        go_simp
        exact hK (upd (upd v 1 _) 0 _) _ { hR with s1 := fun _ => rfl, s0 := fun _ => rfl }
      · intro b9 v w9 hR hc hb hp K hK
        (try simp [Region.binds] at hp)
        have hlast : b9 8 = false := hc.neg (by kernel_rfl) hb
        clear hc
        have e1 := hR.s1 (by simp [hp])
        have hw9 := hR.same hlast
        subst hw9
        go_simp
        exact hK (upd (upd v 2 _) 1 _) _ { hR with s2 := fun _ => rfl, s1 := fun _ => rfl }
      · intro b9 v w9 hR hc hb hp K hK
        (try simp [Region.binds] at hp)
        have hlast : b9 8 = false := hc.neg (by kernel_rfl) hb
        clear hc
        have e2 := hR.s2 (by simp [hp])
        have hw9 := hR.same hlast
        subst hw9
        have y := HD1.out.cells 0 _ rfl
        go_simp
        exact hK (upd (upd v 3 _) 2 _) _ { hR with s3 := fun _ => rfl, s2 := fun _ => rfl }
      · intro b9 v w9 hR hc hb hp K hK
        (try simp [Region.binds] at hp)
        have hlast : b9 8 = false := hc.neg (by kernel_rfl) hb
        clear hc
        have hw9 := hR.same hlast
        subst hw9
        go_simp
        exact hK (upd v 4 _) _ { hR with s4 := fun _ => rfl }
      · intro b9 v w9 hR hc hb hp K hK
        (try simp [Region.binds] at hp)
        have hlast : b9 8 = false := hc.neg (by kernel_rfl) hb
        clear hc
        have e4 := hR.s4 (by simp [hp])
        have hw9 := hR.same hlast
        subst hw9
        go_simp
        exact hK (upd (upd v 5 _) 4 _) _ { hR with s5 := fun _ => rfl, s4 := fun _ => rfl }
      · intro b9 v w9 hR hc hb hp K hK
        (try simp [Region.binds] at hp)
        have hlast : b9 8 = false := hc.neg (by kernel_rfl) hb
        clear hc
        have e5 := hR.s5 (by simp [hp])
        have hw9 := hR.same hlast
        subst hw9
        go_simp
        exact hK (upd (upd v 6 _) 5 _) _ { hR with s6 := fun _ => rfl, s5 := fun _ => rfl }
      · intro b9 v w9 hR hc hb hp K hK
        (try simp [Region.binds] at hp)
        have hlast : b9 8 = false := hc.neg (by kernel_rfl) hb
        clear hc
        have e6 := hR.s6 (by simp [hp])
        have hw9 := hR.same hlast
        subst hw9
        have y := HD1.out.cells 1 _ rfl
        go_simp
        exact hK (upd (upd v 7 _) 6 _) _ { hR with s7 := fun _ => rfl, s6 := fun _ => rfl }
      · intro b9 v w9 hR hc hb hp K hK
        (try simp [Region.binds] at hp)
        clear hc
        have hw9 := hR.same hb
        subst hw9
        refine step_copy_mid rfl Tryd.u8w (.tmp 14) (.tmp 18) rfl g1 0 (S * 64) c1 (hR.s3 (by simp [hp])) (hR.s7 (by simp [hp])) (Byt.drew HD1.out.new) (Nat.le_refl _) (there_old (w := w1.drew) HD1d.out) ?_
        exact hK (upd v 8 (.int .i64 ((S * 64 : Nat) : Int))) _ { hR with same := fun h => Bool.noConfusion (show true = false from h), fin := fun _ => rfl }
    case hfin =>
      intro b9 v w9 hall hR
      have hx := hR.fin (hall 8 (by decide))
      clear hR hall
      subst hx
      go_wp2_with fail
      (try go_simp)
      go_meet
      have hs := HD1d.out.setOld HD1d.out.ok.len
      exact ⟨hs.1, HK1d.out.tran hs.2⟩
  case rest =>
    obtain ⟨hrv, hkp⟩ := hcut
    obtain ⟨w2, hw2⟩ : ∃ x, x = wc := ⟨_, rfl⟩
    subst hw2
    have m2 := hrv.cells 2 _ rfl
    have hrv0 : Rv w2 d g1 g2 g3 S c1 c2 c3 { burnS s with ds := (burnS s).ds.filter fun j => decide (0 ≤ j) } lf1 := by rw [filter_zero]; exact hrv
    have HR0 := Lib.hid hrv0
    have HK0 := Lib.hid hkp
    have HLT := Lib.hid hrv.ok.lt
    clear hrv hkp hrv0 HD1 HD1d HK1 HK1d
    go_wp2_with fail
    go_loopw [25] (fun kv wr => ∃ k : Nat, kv = .int .i64 (k : Int) ∧ k ≤ S ∧ Rv wr d g1 g2 g3 S c1 c2 c3 { burnS s with ds := (burnS s).ds.filter fun j => decide (k ≤ j) } lf1 ∧ Keep w wr (rvL d g1 g2 g3)) (fun kv _ => S - (intOf kv).toNat)
    case atStart => exact ⟨0, rfl, Nat.zero_le _, HR0.out, HK0.out⟩
    case round =>
      obtain ⟨k, rfl, hkS, hrv, hkp⟩ := hrel
      have HR := Lib.hid hrv
      have HK := Lib.hid hkp
      clear hrv hkp
      have b2 : (k : Int) ≤ 1048576 := by omega
      by_cases hk : k < S
      · have k1 : (k : Int) < (S : Int) := by omega
        have k0 : (0 : Int) ≤ (k : Int) := by omega
        have n2 := HR.out.cells 2 _ rfl
        have fl := HR.out.dirt k hk
        have ff := HR.out.s3 k
        have HKS := Lib.hid hk
        obtain ⟨bv, hbv⟩ : ∃ x, decide (k ∈ (burnS s).ds.filter fun j => decide (k ≤ j)) = x := ⟨_, rfl⟩
        rw [hbv] at fl
        clear hbv hk
        go_wp2
        go_roundw
        case rel =>
          have hs := HR.out.clearTo HKS.out
          exact ⟨k + 1, by go_num, by have := HKS.out; omega, hs.1, HK.out.tran hs.2⟩
        case measure => simp [intOf]; omega
      · have k1 : ¬ (k : Int) < (S : Int) := by omega
        have ek : k = S := by omega
        have hrv := HR.out
        rw [ek, filter_end HLT.out] at hrv
        have HR2 := Lib.hid hrv
        clear ek hrv hk
        go_wp2
        go_ret
        exact ⟨rfl, ⟨_, HR2.out⟩, HK.out⟩
end
end Go.Proofs.YthgpmnblkhehkaaDoor
