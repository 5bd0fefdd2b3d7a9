/- The reference's device: Write. -/
import Derived.Test.YthgpmnblkhehkaaDoorRDev2
import Derived.Test.YthgpmnblkhehkaaDoorDev5
namespace Go.Proofs.YthgpmnblkhehkaaDoor
open Go.RowKit
/-- The contents while a sector is written byte by byte. -/
def mixS (img : List UInt8) (i : Nat) (p : List UInt8) (k : Nat) : List UInt8 := img.take (i * 64) ++ p.take k ++ img.drop (i * 64 + k)
theorem mixS_zero (img : List UInt8) (i : Nat) (p : List UInt8) : mixS img i p 0 = img := by simp [mixS]
theorem mixS_full {img : List UInt8} {i : Nat} {b : List UInt8} (h : b.length ≤ 64) : mixS img i (pad64 b) 64 = putS img i b := by
  rw [mixS, putS, List.take_of_length_le (l := pad64 b) (by rw [pad64_len h]; exact Nat.le_refl _)]
theorem mixS_succ {img : List UInt8} {i k : Nat} {p : List UInt8} {x : UInt8} (hp : p[k]? = some x) (hl : i * 64 + k < img.length) :
    (mixS img i p k).take (i * 64 + k) ++ [x] ++ (mixS img i p k).drop (i * 64 + k + 1) = mixS img i p (k + 1) := by
  have hk : k < p.length := (List.getElem?_eq_some_iff.1 hp).1
  have h1 : (img.take (i * 64)).length = i * 64 := by rw [List.length_take]; omega
  have h2 : (p.take k).length = k := by rw [List.length_take]; omega
  have e1 : (mixS img i p k).take (i * 64 + k) = img.take (i * 64) ++ p.take k := by
    rw [mixS, List.take_append_of_le_length (by rw [List.length_append]; omega), List.take_of_length_le (by rw [List.length_append]; omega)]
  have e2 : (mixS img i p k).drop (i * 64 + k + 1) = img.drop (i * 64 + k + 1) := by
    rw [mixS, List.drop_append, List.drop_eq_nil_of_le (by rw [List.length_append]; omega), List.nil_append, List.length_append, h1, h2, List.drop_drop]
    congr 1
    omega
  rw [e1, e2, mixS, List.take_add_one, hp]
  simp [Nat.add_assoc]
theorem pad64_at {b : List UInt8} {k : Nat} (hk : k < 64) (hb : b.length ≤ 64) : (pad64 b)[k]? = some (if k < b.length then b.getD k 0 else 0) := by
  unfold pad64
  by_cases h : k < b.length
  · rw [if_pos h, List.getElem?_append_left h, List.getD, List.getElem?_eq_getElem h]; rfl
  · rw [if_neg h, List.getElem?_append_right (by omega), List.getElem?_replicate, if_pos (by omega)]
theorem dirtS_mem (ds : List Nat) (i j : Nat) : decide (j ∈ dirtS ds i) = if j = i then true else decide (j ∈ ds) := by
  unfold dirtS
  by_cases hi : i ∈ ds
  · rw [if_pos hi]
    by_cases hj : j = i
    · rw [if_pos hj, hj]; exact decide_eq_true hi
    · rw [if_neg hj]
  · rw [if_neg hi]
    by_cases hj : j = i
    · rw [if_pos hj, hj]; exact decide_eq_true (by simp)
    · rw [if_neg hj]
      have : (j ∈ ds ++ [i]) = (j ∈ ds) := by simp [hj]
      simp only [this]
/-- What the reference's Write leaves. -/
def RWr (w : World) (d g1 g2 g3 S c1 c2 c3 : Nat) (res : Int × DS) (e : Ending) (w' : World) : Prop := e = .returned (.int .i64 res.1) ∧ (∃ lf', Rv w' d g1 g2 g3 S c1 c2 c3 res.2 lf') ∧ Keep w w' (rvL d g1 g2 g3)
section
variable {w : World} {d g1 g2 g3 S c1 c2 c3 : Nat} {s : DS} {lf : Int}
theorem rwrite_bad (i : Int) (b : List UInt8) (A : Option Addr) (n cb : Nat) (hn : n ≤ 9223372036854775807) (hb : b.length = n) (h : Rv w d g1 g2 g3 S c1 c2 c3 s lf) (hbad : s.dead = true ∨ i < 0 ∨ (S : Int) ≤ i ∨ 64 < n ∨ (burnS s).dead = true) :
    Calls Tryd.prog 44 #[.pointer (some ⟨d, 0, none⟩), .int .i64 i, .slice A n cb] w (RWr w d g1 g2 g3 S c1 c2 c3 (writeS S s i b)) := by
  have HH := Lib.hid h
  have hn' : (n : Int) ≤ 9223372036854775807 := by omega
  have l5 := h.cells 5 _ rfl
  have l2 := h.cells 2 _ rfl
  have hS := h.sz
  have b1 : (S : Int) ≤ 1048576 := by omega
  by_cases hd : s.dead = true
  · have e : writeS S s i b = (1, s) := by rw [writeS, if_pos hd]
    rw [e]
    rw [hd] at l5
    clear h hd hbad hb e hS
    go_enter Tryd.func44, Tryd.ntmps44
    go_wp2
    go_ret
    exact ⟨rfl, ⟨_, HH.out⟩, Keep.refl _ _⟩
  have hd' : s.dead = false := by simpa using hd
  rw [hd'] at l5
  by_cases hi : i < 0
  · have e : writeS S s i b = (2, s) := by rw [writeS, if_neg hd, if_pos (.inl hi)]
    rw [e]
    clear h hd hd' hbad hb e hS
    go_enter Tryd.func44, Tryd.ntmps44
    go_wp2
    go_ret
    exact ⟨rfl, ⟨_, HH.out⟩, Keep.refl _ _⟩
  by_cases hi2 : (S : Int) ≤ i
  · have e : writeS S s i b = (2, s) := by rw [writeS, if_neg hd, if_pos (.inr hi2)]
    rw [e]
    clear h hd hd' hbad hb e hS
    go_enter Tryd.func44, Tryd.ntmps44
    go_wp2
    go_ret
    exact ⟨rfl, ⟨_, HH.out⟩, Keep.refl _ _⟩
  have hii : ¬ (i < 0 ∨ (S : Int) ≤ i) := by omega
  by_cases h64 : 64 < n
  · have e : writeS S s i b = (3, s) := by rw [writeS, if_neg hd, if_neg hii, if_pos (by rw [hb]; exact h64)]
    rw [e]
    have h64' : (64 : Int) < (n : Int) := by omega
    clear h hd hd' hbad hb e h64 hii hS
    go_enter Tryd.func44, Tryd.ntmps44
    go_wp2
    go_ret
    exact ⟨rfl, ⟨_, HH.out⟩, Keep.refl _ _⟩
  have hbd : (burnS s).dead = true := by
    rcases hbad with h1 | h1 | h1 | h1 | h1
    · exact absurd h1 hd
    · exact absurd h1 hi
    · exact absurd h1 hi2
    · exact absurd h1 h64
    · exact h1
  have e : writeS S s i b = (1, burnS s) := by rw [writeS, if_neg hd, if_neg hii, if_neg (by rw [hb]; exact h64), if_pos hbd]
  rw [e]
  have BU := Lib.hid (rburn_any hd' h)
  have HBD := Lib.hid hbd
  have h64' : ¬ (64 : Int) < (n : Int) := by omega
  clear h hd hd' hbad hb e h64 hbd hii hS
  go_enter Tryd.func44, Tryd.ntmps44
  go_wp2_with (go_at_call 64; refine BU.out.mono ?_; rintro e w1 ⟨rfl, hdv, hk⟩; rw [HBD.out]; have HD1 := Lib.hid hdv; have HK1 := Lib.hid hk; clear hdv hk)
  go_ret
  exact ⟨rfl, HD1.out, HK1.out⟩

set_option maxRecDepth 100000 in
set_option maxHeartbeats 4000000 in
theorem rwrite_good (i : Nat) (b : List UInt8) (A : Option Addr) (n cb : Nat) (hn : n ≤ 64) (hb : Byt w w.heap.size A n b) (hsep : ∀ ad, A = some ad → ¬ rvL d g1 g2 g3 ad.block) (h : Rv w d g1 g2 g3 S c1 c2 c3 s lf) (hd : s.dead = false) (hi : i < S) (hbd : (burnS s).dead = false) (hwr : s.wr ≤ 1000000000) :
    Calls Tryd.prog 44 #[.pointer (some ⟨d, 0, none⟩), .int .i64 (i : Int), .slice A n cb] w (RWr w d g1 g2 g3 S c1 c2 c3 (writeS S s (i : Int) b)) := by
  have hbl := hb.len
  have e : writeS S s (i : Int) b = (0, { burnS s with img := putS s.img i b, ds := dirtS s.ds i, wr := s.wr + 1 }) := by
    rw [writeS, if_neg (by rw [hd]; simp), if_neg (by omega), if_neg (by omega), if_neg (by rw [hbd]; simp)]
    simp
  rw [e]
  have BU := Lib.hid (rburn_any hd h)
  have HBD := Lib.hid hbd
  have hS := h.sz
  have l5 := h.cells 5 _ rfl
  have l2 := h.cells 2 _ rfl
  rw [hd] at l5
  have h64' : ¬ (64 : Int) < (n : Int) := by omega
  have HI := Lib.hid hi
  have hi9 : (i : Int) ≤ 1048576 := by omega
  have hi0 : (0 : Int) ≤ (i : Int) := by omega
  have hi1 : (i : Int) < (S : Int) := by omega
  have b1 : (S : Int) ≤ 1048576 := by omega
  have HSZ := Lib.hid hS
  have HBY : Hid (∀ w', Keep w w' (rvL d g1 g2 g3) → Byt w' w.heap.size A n b) := fun w' hk => ⟨hb.len, fun hn => by
    obtain ⟨ad, e, hlt, hc⟩ := hb.mem hn
    exact ⟨ad, e, hlt, fun j u hu => (World.cell?_of_block (by rw [addr_block]; exact hk.block _ hlt (hsep ad e))).trans (hc j u hu)⟩⟩
  have HN := Lib.hid hn
  have HBL := Lib.hid hbl
  obtain ⟨q1, q2, q3⟩ := burnS_img s
  have HQ := Lib.hid (And.intro q1 (And.intro q2 q3))
  have HOK : Hid (DS.ok S { burnS s with img := putS s.img i b, ds := dirtS s.ds i, wr := s.wr + 1 }) := by have := h.ok.write (i : Int) b; rw [e] at this; exact this
  have HLI := Lib.hid h.ok.len
  have hwr9 : ((burnS s).wr : Int) ≤ 1000000000 := by rw [q3]; omega
  have hwr0 : (0 : Int) ≤ ((burnS s).wr : Int) := by omega
  have hDI := dirtS_ok hi h.ok.nd h.ok.lt
  have HDI := Lib.hid hDI
  clear h hd hi hbd hb hsep hbl e hS hn q1 q2 q3 hwr hDI
  go_enter Tryd.func44, Tryd.ntmps44
  go_wp2_with (go_at_call 64; refine BU.out.mono ?_; rintro e w1 ⟨rfl, ⟨lf1, hdv⟩, hk⟩; rw [HBD.out]; have HD1 := Lib.hid hdv; have HK1 := Lib.hid hk; clear hdv hk)
  go_loopw [7] (fun kv wr => ∃ k : Nat, kv = .int .i64 (k : Int) ∧ k ≤ 64 ∧ Rv wr d g1 g2 g3 S c1 c2 c3 { burnS s with img := mixS s.img i (pad64 b) k } lf1 ∧ Keep w wr (rvL d g1 g2 g3)) (fun kv _ => 64 - (intOf kv).toNat)
  case atStart => exact ⟨0, rfl, by omega, by rw [mixS_zero, ← HQ.out.1]; exact HD1.out, HK1.out⟩
  case round =>
    obtain ⟨k, rfl, hk64, hrv, hkp⟩ := hrel
    have HR := Lib.hid hrv
    have HK := Lib.hid hkp
    clear hrv hkp
    by_cases hk : k < 64
    · have k1 : (k : Int) < 64 := by omega
      have k0 : (0 : Int) ≤ (k : Int) := by omega
      have hx := pad64_at hk (show b.length ≤ 64 by rw [HBL.out]; exact HN.out)
      have hso : i * 64 + k < S * 64 := by have := HI.out; omega
      have m1 := HR.out.cells 1 _ rfl
      have y2 : (i : Int) * 64 + (k : Int) < ((S * 64 : Nat) : Int) := by omega
      have hlc : i * 64 + k < (mixS s.img i (pad64 b) k).length := by have := HR.out.ok.len; rw [this]; exact hso
      have hold : wr.cell? ⟨g2, i * 64 + k, none⟩ = some (.int .u8 (((mixS s.img i (pad64 b) k)[i * 64 + k]).toNat : Int)) := by
        have := byt_range HR.out.new (i * 64 + k) _ (bytes_get (List.getElem?_eq_getElem hlc))
        simpa using this
      have fz := HR.out.s2 (i * 64 + k)
      obtain ⟨x9, hx9⟩ : ∃ x, (mixS s.img i (pad64 b) k)[i * 64 + k] = x := ⟨_, rfl⟩
      rw [hx9] at hold
      have hc2 := HSZ.out.2.2.2.2.1
      have hms := fun x (hx : (pad64 b)[k]? = some x) => mixS_succ (img := s.img) (i := i) hx (by rw [HLI.out]; exact hso)
      have HMS := Lib.hid hms
      have HX := Lib.hid hx
      have HSO := Lib.hid hso
      clear hx9 hlc hx hms hc2 hso
      by_cases hkn : k < n
      · have kn1 : (k : Int) < (n : Int) := by omega
        obtain ⟨ad, bb, rfl, _, hbk, hcell⟩ := (HBY.out _ HK.out).get hkn
        have HXB : Hid ((pad64 b)[k]? = some bb) := by
          show _ = _
          rw [HX.out, if_pos (by rw [HBL.out]; exact hkn), List.getD, hbk]; rfl
        clear hbk hkn
        go_wp2
        go_roundw
        case rel =>
          have hs := HR.out.setImg (x := bb) HSO.out
          refine ⟨k + 1, by go_num, by omega, ?_, HK.out.tran hs.2⟩
          have := hs.1
          simp only at this
          rw [HMS.out bb HXB.out] at this
          exact this
        case measure => simp [intOf]; omega
      · have kn1 : ¬ (k : Int) < (n : Int) := by omega
        have HXB : Hid ((pad64 b)[k]? = some 0) := by
          show _ = _
          rw [HX.out, if_neg (by rw [HBL.out]; exact hkn)]
        clear hkn
        go_wp2
        go_roundw
        case rel =>
          have hs := HR.out.setImg (x := 0) HSO.out
          refine ⟨k + 1, by go_num, by omega, ?_, HK.out.tran hs.2⟩
          have := hs.1
          simp only at this
          rw [HMS.out 0 HXB.out] at this
          exact this
        case measure => simp [intOf]; omega
    · have k1 : ¬ (k : Int) < 64 := by omega
      have ek : k = 64 := by omega
      have hrv := HR.out
      rw [ek, mixS_full (by rw [HBL.out]; exact HN.out)] at hrv
      have m2 := hrv.cells 2 _ rfl
      have m6 := hrv.cells 6 _ rfl
      have f6 := hrv.sd 6
      have fl := hrv.dirt i HI.out
      have ff := hrv.s3 i
      have HR2 := Lib.hid hrv
      obtain ⟨bv, hbv⟩ : ∃ x, decide (i ∈ (burnS s).ds) = x := ⟨_, rfl⟩
      simp only [hbv] at fl
      obtain ⟨_, _, n3, _⟩ := HR2.out.ne
      have n3' : ¬ g3 = d := fun e => n3 e.symm
      clear ek hrv hk hbv
      go_wp2
      go_ret
      have hw : (s.wr + 1 : Nat) = (burnS s).wr + 1 := by rw [HQ.out.2.2]
      have hok := HOK.out
      rw [hw] at hok ⊢
      have hf := HR2.out.setFlag (i := i) (b := true) (ds' := dirtS s.ds i) HI.out (fun j _ => by show _ = if j = i then true else decide (j ∈ (burnS s).ds); rw [HQ.out.2.1]; exact dirtS_mem _ _ _) HDI.out.1 HDI.out.2
      have hc := hf.1.setOwn (j := 6) (u := .int .i64 (((burnS s).wr : Int) + 1)) (s' := { burnS s with img := putS s.img i b, ds := dirtS s.ds i, wr := (burnS s).wr + 1 }) (lf' := lf1) (hf.1.cells.set 6 _) rfl rfl HR2.out.left HR2.out.i64 hok
      exact ⟨rfl, ⟨_, hc.1⟩, (HK.out.tran hf.2).tran hc.2⟩
end
end Go.Proofs.YthgpmnblkhehkaaDoor
