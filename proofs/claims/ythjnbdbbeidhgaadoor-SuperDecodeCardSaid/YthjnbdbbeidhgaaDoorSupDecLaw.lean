/- SuperDecode: the walk (tools/mksupdlaw.py). -/
import Derived.Test.YthjnbdbbeidhgaaDoorSupAwake
import Derived.Test.YthjnbdbbeidhgaaDoorSupRDec
import Derived.Test.YthjnbdbbeidhgaaDoorSupREnc
import Derived.Test.YthjnbdbbeidhgaaDoorMid
import Derived.Deep.DeepCutAuto
namespace Go.Proofs.YthjnbdbbeidhgaaDoor
open Go.RowKit Go.Sort

/-- A struct written anew. -/
structure Set14 (w w' : World) (g : Nat) (l : List Value) : Prop where
  cells : Cells w' g l
  soft : Soft w' g
  bel : ∀ B, B ≤ g → Below B w w'
  size : w'.heap.size = w.heap.size
  block : ∀ k, k ≠ g → w'.heap[k]? = w.heap[k]?
theorem setC_there {w : World} {g : Nat} {old : List Value} (h : Cells w g old) (hs : Soft w g) {n : Nat} (hn : n = old.length) : w.there g 0 n := fun j hj => by
  refine ⟨?_, by rw [Nat.zero_add]; exact hs j⟩
  rw [Nat.zero_add, h j _ (List.getElem?_eq_getElem (by omega))]
  rfl
theorem setC_mk {w : World} {g : Nat} {old vs : List Value} (h : Cells w g old) (hs : Soft w g) (hl : vs.length = old.length) : Set14 w (w.setCells g 0 vs) g vs := by
  obtain ⟨o1, o2, o3, o4⟩ := setCells_rest g vs 0 w
  refine ⟨fun j x hj => ?_, fun j => by rw [World.frozen?_setCells]; exact hs j, fun B hB => ⟨o1, o2, o3, by rw [o4]; exact Nat.le_refl _, fun k hk => setCells_block g vs 0 w k (by omega)⟩, o4, fun k hk => setCells_block g vs 0 w k hk⟩
  have := World.rangeAt_setCells_same w g 0 vs (setC_there h hs hl) j x hj
  rwa [Nat.zero_add] at this
theorem lat_set {w w' : World} {g : Nat} {l : List Value} {B k : Nat} {A : Option Addr} {fs : List Ly} (hs : Set14 w w' g l) (h : LAt w B A k fs) (hne : ∀ ad, A = some ad → ¬ ad.block = g) : LAt w' B A k fs := ⟨h.1, fun i l hi => by
  obtain ⟨ad, e, hlt, h1, h2, h3, h4⟩ := h.2 i l hi
  have hk : (ad.add (i * 4)).block ≠ g := by rw [addr_block]; exact hne ad e
  have hc : ∀ o, w'.cell? ⟨(ad.add (i * 4)).block, o, none⟩ = w.cell? ⟨(ad.add (i * 4)).block, o, none⟩ := fun o => World.cell?_of_block (hs.block _ hk)
  exact ⟨ad, e, hlt, (World.cell?_of_block (a := ad.add (i * 4)) (hs.block _ hk)).trans h1, (hc _).trans h2, (hc _).trans h3, (hc _).trans h4⟩⟩
theorem bool_eq_of {a b : Bool} (h : a = b) : (a == b) = true := by subst h; simp

set_option maxRecDepth 100000 in
set_option maxHeartbeats 16000000 in
theorem superDecode_any (bs ps : List UInt8) (A Ap : Option Addr) (n cap np capp : Nat) (sc : Int) (w : World) (ht : TabAt w) (h0 : 0 < w.heap.size) (hb : Byt w w.heap.size A n bs) (hn : n ≤ cap) (hcap : cap ≤ 9223372036854775807) (hp : Byt w w.heap.size Ap np ps) (hnp : np ≤ capp) (hcapp : capp ≤ 9223372036854775807) :
    Calls Tryd.prog 6 #[.slice A n cap, .slice Ap np capp, .int .i64 sc] w fun e w' => e = .returned (.bool true) ∧ Below w.heap.size w w' := by
  have HT : Hid (∀ w', Below w.heap.size w w' → TabAt w' ∧ 0 < w'.heap.size) := fun w' hw => ⟨ht.below hw h0, Nat.lt_of_lt_of_le h0 hw.size⟩
  obtain ⟨mb, hmb⟩ : ∃ m, (n ≤ 70 ∧ m = n) ∨ (70 < n ∧ m = 70) := by
    by_cases h : n ≤ 70
    · exact ⟨n, .inl ⟨h, rfl⟩⟩
    · exact ⟨70, .inr ⟨by omega, rfl⟩⟩
  obtain ⟨mp, hmp⟩ : ∃ m, (np ≤ 59 ∧ m = np) ∨ (59 < np ∧ m = 59) := by
    by_cases h : np ≤ 59
    · exact ⟨np, .inl ⟨h, rfl⟩⟩
    · exact ⟨59, .inr ⟨by omega, rfl⟩⟩
  obtain ⟨b', hb'⟩ : ∃ x, bs.take mb = x := ⟨_, rfl⟩
  obtain ⟨p', hp'⟩ : ∃ x, ps.take mp = x := ⟨_, rfl⟩
  have HY : Hid (∀ w', Below w.heap.size w w' → Byt w' w.heap.size A mb b') := fun w' hw => by rw [← hb']; exact (hb.take (by omega)).below hw
  have HZ : Hid (∀ w', Below w.heap.size w w' → Byt w' w.heap.size Ap mp p') := fun w' hw => by rw [← hp']; exact (hp.take (by omega)).below hw
  have hmbc : mb ≤ cap := by omega
  have hmp59 : mp ≤ 59 := by omega
  have hpl := (HZ.out w (Below.refl _ _)).len
  obtain ⟨r, hr⟩ : ∃ r, sdecW sread sc b' = r := ⟨_, rfl⟩
  have hr' : sdecW sreadR sc b' = r := by rw [sdec_two]; exact hr
  obtain ⟨fr, hfr⟩ : ∃ fr, frame 3 0 sc.toNat p' = fr := ⟨_, rfl⟩
  have hfl : fr.length = 64 := by rw [← hfr]; exact frame_len (by rw [hpl]; exact hmp59)
  obtain ⟨r2, hr2⟩ : ∃ r, sdecW sread sc fr = r := ⟨_, rfl⟩
  have hr2' : sdecW sreadR sc fr = r2 := by rw [sdec_two]; exact hr2
  obtain ⟨⟨zg, zp, zm, zt, zn, ⟨za1, zb1, zc1, zd1⟩, ⟨za2, zb2, zc2, zd2⟩, fs⟩, hq⟩ : ∃ q, r.getD szero = q := ⟨_, rfl⟩
  obtain ⟨v, hv⟩ : ∃ x, r.isSome = x := ⟨_, rfl⟩
  obtain ⟨⟨zg', zp', zm', zt', zn', ⟨za1', zb1', zc1', zd1'⟩, ⟨za2', zb2', zc2', zd2'⟩, fs'⟩, hq2⟩ : ∃ q, r2.getD szero = q := ⟨_, rfl⟩
  obtain ⟨v2, hv2⟩ : ∃ x, r2.isSome = x := ⟨_, rfl⟩
  have D1 : Hid (∀ (u : World), Below w.heap.size w u → Calls Tryd.prog 22 #[.slice A mb cap, .int .i64 sc] u fun e u' => ∃ A1 k1 c1, e = .returned (.tuple #[.agg #[.int .i64 zg, .int .i64 zp, .int .i64 zm, .int .i64 zt, .int .i64 zn, .int .i64 za1, .int .i64 zb1, .int .i64 zc1, .int .i64 zd1, .int .i64 za2, .int .i64 zb2, .int .i64 zc2, .int .i64 zd2, .slice A1 k1 c1], .bool v]) ∧ LAt u' u'.heap.size A1 k1 fs ∧ k1 ≤ 9223372036854775807 ∧ Below u.heap.size u u' ∧ (∀ ad, A1 = some ad → u.heap.size ≤ ad.block)) := fun u hu => (sdecode_lo sc b' A mb cap w.heap.size u (HT.out _ hu).1 (HT.out _ hu).2 (HY.out _ hu) hmbc hcap hu.size r hr).mono fun e u' h => by
    unfold SDecLo at h
    rw [hq, hv] at h
    obtain ⟨A1, k1, c1, h1, h2, h3, h4, h5, h6⟩ := h
    exact ⟨A1, k1, c1, h1, h2, by omega, h5, h6⟩
  have D2 : Hid (∀ (u : World), Below w.heap.size w u → Calls Tryd.prog 25 #[.slice A mb cap, .int .i64 sc] u fun e u' => ∃ A1 k1 c1, e = .returned (.tuple #[.agg #[.int .i64 zg, .int .i64 zp, .int .i64 zm, .int .i64 zt, .int .i64 zn, .int .i64 za1, .int .i64 zb1, .int .i64 zc1, .int .i64 zd1, .int .i64 za2, .int .i64 zb2, .int .i64 zc2, .int .i64 zd2, .slice A1 k1 c1], .bool v]) ∧ LAt u' u'.heap.size A1 k1 fs ∧ k1 ≤ 9223372036854775807 ∧ Below u.heap.size u u' ∧ (∀ ad, A1 = some ad → u.heap.size ≤ ad.block)) := fun u hu => (srdecode_any sc b' A mb cap w.heap.size u (HY.out _ hu) hmbc hcap hu.size r hr').mono fun e u' h => by
    unfold SDecResR at h
    rw [hq, hv] at h
    obtain ⟨A1, k1, c1, h1, h2, h3, h4, h5, h6⟩ := h
    exact ⟨A1, k1, c1, h1, h2, by omega, h5, h6⟩
  have D3 : Hid (∀ (u u0 : World) (A2 : Option Addr) (c2 : Nat), Below w.heap.size w u → Byt u u0.heap.size A2 64 fr → u0.heap.size ≤ u.heap.size → 64 ≤ c2 → c2 ≤ 9223372036854775807 → Calls Tryd.prog 22 #[.slice A2 64 c2, .int .i64 sc] u fun e u' => ∃ A1 k1 c1, e = .returned (.tuple #[.agg #[.int .i64 zg', .int .i64 zp', .int .i64 zm', .int .i64 zt', .int .i64 zn', .int .i64 za1', .int .i64 zb1', .int .i64 zc1', .int .i64 zd1', .int .i64 za2', .int .i64 zb2', .int .i64 zc2', .int .i64 zd2', .slice A1 k1 c1], .bool v2]) ∧ LAt u' u'.heap.size A1 k1 fs' ∧ k1 ≤ 9223372036854775807 ∧ Below u.heap.size u u' ∧ (∀ ad, A1 = some ad → u.heap.size ≤ ad.block)) := fun u u0 A2 c2 hu hby hle h1 h2 => (sdecode_lo sc fr A2 64 c2 u0.heap.size u (HT.out _ hu).1 (HT.out _ hu).2 hby h1 h2 hle r2 hr2).mono fun e u' h => by
    unfold SDecLo at h
    rw [hq2, hv2] at h
    obtain ⟨A1, k1, c1, h1, h2, h3, h4, h5, h6⟩ := h
    exact ⟨A1, k1, c1, h1, h2, by omega, h5, h6⟩
  have D4 : Hid (∀ (u u0 : World) (A2 : Option Addr) (c2 : Nat), Byt u u0.heap.size A2 64 fr → u0.heap.size ≤ u.heap.size → 64 ≤ c2 → c2 ≤ 9223372036854775807 → Calls Tryd.prog 25 #[.slice A2 64 c2, .int .i64 sc] u fun e u' => ∃ A1 k1 c1, e = .returned (.tuple #[.agg #[.int .i64 zg', .int .i64 zp', .int .i64 zm', .int .i64 zt', .int .i64 zn', .int .i64 za1', .int .i64 zb1', .int .i64 zc1', .int .i64 zd1', .int .i64 za2', .int .i64 zb2', .int .i64 zc2', .int .i64 zd2', .slice A1 k1 c1], .bool v2]) ∧ LAt u' u'.heap.size A1 k1 fs' ∧ k1 ≤ 9223372036854775807 ∧ Below u.heap.size u u' ∧ (∀ ad, A1 = some ad → u.heap.size ≤ ad.block)) := fun u u0 A2 c2 hby hle h1 h2 => (srdecode_any sc fr A2 64 c2 u0.heap.size u hby h1 h2 hle r2 hr2').mono fun e u' h => by
    unfold SDecResR at h
    rw [hq2, hv2] at h
    obtain ⟨A1, k1, c1, h1, h2, h3, h4, h5, h6⟩ := h
    exact ⟨A1, k1, c1, h1, h2, by omega, h5, h6⟩
  have E1 : Hid (0 ≤ sc → sc < 1048576 → ∀ (u : World), Below w.heap.size w u → Calls Tryd.prog 17 #[.int .i64 3, .int .i64 0, .int .i64 sc, .slice Ap mp capp] u (PutRes u.heap.size fr u)) := fun hs0 hs1 u hu => by
    have e : ((sc.toNat : Nat) : Int) = sc := by omega
    have h := refEncode_any 3 0 sc.toNat p' Ap mp capp w.heap.size u (HZ.out _ hu) hmp59 hu.size (by decide) (by omega) fr hfr
    rw [e] at h
    exact h
  have QA : Hid (∀ (u : World) (B1 B2 : Nat) A1 k1 c1 A2 k2 c2, LAt u B1 A1 k1 fs → LAt u B2 A2 k2 fs → k1 ≤ 9223372036854775807 → k2 ≤ 9223372036854775807 → B1 ≤ u.heap.size → B2 ≤ u.heap.size → Calls Tryd.prog 24 #[.agg #[.int .i64 zg, .int .i64 zp, .int .i64 zm, .int .i64 zt, .int .i64 zn, .int .i64 za1, .int .i64 zb1, .int .i64 zc1, .int .i64 zd1, .int .i64 za2, .int .i64 zb2, .int .i64 zc2, .int .i64 zd2, .slice A1 k1 c1], .agg #[.int .i64 zg, .int .i64 zp, .int .i64 zm, .int .i64 zt, .int .i64 zn, .int .i64 za1, .int .i64 zb1, .int .i64 zc1, .int .i64 zd1, .int .i64 za2, .int .i64 zb2, .int .i64 zc2, .int .i64 zd2, .slice A2 k2 c2]] u fun e u' => e = .returned (.bool true) ∧ Below u.heap.size u u') := fun u B1 B2 A1 k1 c1 A2 k2 c2 h1 h2 h3 h4 h5 h6 => refSEq_any zg zp zm zt zn za1 zb1 zc1 zd1 za2 zb2 zc2 zd2 zg zp zm zt zn za1 zb1 zc1 zd1 za2 zb2 zc2 zd2 fs fs A1 A2 k1 c1 k2 c2 B1 B2 u h1 h2 h3 h4 h5 h6 true (decide_eq_true rfl)
  have QB : Hid (∀ (u : World) (B1 B2 : Nat) A1 k1 c1 A2 k2 c2, LAt u B1 A1 k1 fs' → LAt u B2 A2 k2 fs' → k1 ≤ 9223372036854775807 → k2 ≤ 9223372036854775807 → B1 ≤ u.heap.size → B2 ≤ u.heap.size → Calls Tryd.prog 24 #[.agg #[.int .i64 zg', .int .i64 zp', .int .i64 zm', .int .i64 zt', .int .i64 zn', .int .i64 za1', .int .i64 zb1', .int .i64 zc1', .int .i64 zd1', .int .i64 za2', .int .i64 zb2', .int .i64 zc2', .int .i64 zd2', .slice A1 k1 c1], .agg #[.int .i64 zg', .int .i64 zp', .int .i64 zm', .int .i64 zt', .int .i64 zn', .int .i64 za1', .int .i64 zb1', .int .i64 zc1', .int .i64 zd1', .int .i64 za2', .int .i64 zb2', .int .i64 zc2', .int .i64 zd2', .slice A2 k2 c2]] u fun e u' => e = .returned (.bool true) ∧ Below u.heap.size u u') := fun u B1 B2 A1 k1 c1 A2 k2 c2 h1 h2 h3 h4 h5 h6 => refSEq_any zg' zp' zm' zt' zn' za1' zb1' zc1' zd1' za2' zb2' zc2' zd2' zg' zp' zm' zt' zn' za1' zb1' zc1' zd1' za2' zb2' zc2' zd2' fs' fs' A1 A2 k1 c1 k2 c2 B1 B2 u h1 h2 h3 h4 h5 h6 true (decide_eq_true rfl)
  have HFL := Lib.hid hfl
  have HMB := Lib.hid hmb
  have HMP := Lib.hid hmp
  have hbc : (mb : Int) ≤ (cap : Int) := by omega
  have hpc : (mp : Int) ≤ (capp : Int) := by omega
  have AW : Hid (∀ u, Below w.heap.size w u → Calls Tryd.prog 21 #[] u fun e u' => e = .returned (.bool true) ∧ Below u.heap.size u u') := fun u hu => sAwake_any u (HT.out _ hu).1 (HT.out _ hu).2
  have hvv : (v == v) = true := by simp
  have hvv2 : (v2 == v2) = true := by simp
  clear hr hr' hr2 hr2' hq hq2 hv hv2 hfr hfl hb' hp' hb hp hpl ht h0 hmb hmp hn hnp hcapp
  go_enter Tryd.func6, Tryd.ntmps6
  go_upto_region 1 with fail
  go_cut [0, 1] (fun x y wx => x = .slice A mb cap ∧ y = .slice Ap mp capp ∧ wx = w.drew)
  case first =>
    rcases HMB.out with ⟨hb1, rfl⟩ | ⟨hb1, rfl⟩
    all_goals rcases HMP.out with ⟨hp1, rfl⟩ | ⟨hp1, rfl⟩
    · have hb2 : (mb : Int) ≤ 70 := by omega
      have hp2 : (mp : Int) ≤ 59 := by omega
      have hb3 : min (mb : Int) 70 = (mb : Int) := by omega
      have hp3 : min (mp : Int) 59 = (mp : Int) := by omega
      go_region
      all_goals
        go_wp2_with fail
        (try go_simp)
        go_meet
        exact ⟨rfl, rfl, rfl⟩
    · have hb2 : (mb : Int) ≤ 70 := by omega
      have hp2 : (59 : Int) < (np : Int) := by omega
      have hb3 : min (mb : Int) 70 = (mb : Int) := by omega
      have hp3 : min (np : Int) 59 = 59 := by omega
      go_region
      all_goals
        go_wp2_with fail
        (try go_simp)
        go_meet
        exact ⟨rfl, rfl, rfl⟩
    · have hb2 : (70 : Int) < (n : Int) := by omega
      have hp2 : (mp : Int) ≤ 59 := by omega
      have hb3 : min (n : Int) 70 = 70 := by omega
      have hp3 : min (mp : Int) 59 = (mp : Int) := by omega
      go_region
      all_goals
        go_wp2_with fail
        (try go_simp)
        go_meet
        exact ⟨rfl, rfl, rfl⟩
    · have hb2 : (70 : Int) < (n : Int) := by omega
      have hp2 : (59 : Int) < (np : Int) := by omega
      have hb3 : min (n : Int) 70 = 70 := by omega
      have hp3 : min (np : Int) 59 = 59 := by omega
      go_region
      all_goals
        go_wp2_with fail
        (try go_simp)
        go_meet
        exact ⟨rfl, rfl, rfl⟩
  case rest =>
    obtain ⟨rfl, rfl, rfl⟩ := hcut
    have HB0 : Hid (Below w.heap.size w w.drew) := Below.drew (Below.refl _ _)
    clear HMB HMP hbc hpc
    go_wp2_with fail
    refine (D1.out _ HB0.out).mono ?_
    rintro e w1 ⟨A1, k1, c1, rfl, hla, hk1, hbel, hlo⟩
    have HL1 := Lib.hid hla
    have HB1 := Lib.hid (HB0.out.trans (hbel.mono HB0.out.size))
    clear hbel hla hlo
    have HB1a := Lib.hid (HB1.out.alloc HB1.out.size (.cells #[.int .i64 zg, .int .i64 zp, .int .i64 zm, .int .i64 zt, .int .i64 zn, .int .i64 za1, .int .i64 zb1, .int .i64 zc1, .int .i64 zd1, .int .i64 za2, .int .i64 zb2, .int .i64 zc2, .int .i64 zd2, .slice A1 k1 c1] 41))
    have HX1 := Lib.hid (Cells.new w1 41 #[.int .i64 zg, .int .i64 zp, .int .i64 zm, .int .i64 zt, .int .i64 zn, .int .i64 za1, .int .i64 zb1, .int .i64 zc1, .int .i64 zd1, .int .i64 za2, .int .i64 zb2, .int .i64 zc2, .int .i64 zd2, .slice A1 k1 c1])
    have HS1 := Lib.hid (Soft.new w1 41 #[.int .i64 zg, .int .i64 zp, .int .i64 zm, .int .i64 zt, .int .i64 zn, .int .i64 za1, .int .i64 zb1, .int .i64 zc1, .int .i64 zd1, .int .i64 za2, .int .i64 zb2, .int .i64 zc2, .int .i64 zd2, .slice A1 k1 c1])
    have hz1 : w1.heap.size < (w1.alloc (.cells #[.int .i64 zg, .int .i64 zp, .int .i64 zm, .int .i64 zt, .int .i64 zn, .int .i64 za1, .int .i64 zb1, .int .i64 zc1, .int .i64 zd1, .int .i64 za2, .int .i64 zb2, .int .i64 zc2, .int .i64 zd2, .slice A1 k1 c1] 41)).heap.size := by simp
    go_wp2_with fail
    refine (D2.out _ HB1a.out).mono ?_
    rintro e w2 ⟨A2, k2, c2, rfl, hla, hk2, hbel, hlo⟩
    have HL2 := Lib.hid hla
    have HB2 := Lib.hid (HB1a.out.trans (hbel.mono HB1a.out.size))
    have HL1b : Hid (LAt w2 w1.heap.size A1 k1 fs) := (HL1.out.below ((below_al w1 (.cells #[.int .i64 zg, .int .i64 zp, .int .i64 zm, .int .i64 zt, .int .i64 zn, .int .i64 za1, .int .i64 zb1, .int .i64 zc1, .int .i64 zd1, .int .i64 za2, .int .i64 zb2, .int .i64 zc2, .int .i64 zd2, .slice A1 k1 c1] 41)).mono (Nat.le_refl _))).below (hbel.mono (by simp))
    have HX2 := Lib.hid (HX1.out.below hbel hz1)
    have HS2 := Lib.hid (HS1.out.same (hbel.block _ hz1))
    have hw2 : w1.heap.size < w2.heap.size := Nat.lt_of_lt_of_le hz1 hbel.size
    clear hbel hla hlo
    have HB2a := Lib.hid (HB2.out.alloc HB2.out.size (.cells #[.int .i64 zg, .int .i64 zp, .int .i64 zm, .int .i64 zt, .int .i64 zn, .int .i64 za1, .int .i64 zb1, .int .i64 zc1, .int .i64 zd1, .int .i64 za2, .int .i64 zb2, .int .i64 zc2, .int .i64 zd2, .slice A2 k2 c2] 41))
    have HX2a := Lib.hid (HX2.out.below (below_al w2 (.cells #[.int .i64 zg, .int .i64 zp, .int .i64 zm, .int .i64 zt, .int .i64 zn, .int .i64 za1, .int .i64 zb1, .int .i64 zc1, .int .i64 zd1, .int .i64 za2, .int .i64 zb2, .int .i64 zc2, .int .i64 zd2, .slice A2 k2 c2] 41)) hw2)
    have HS2a := Lib.hid (HS2.out.same ((below_al w2 (.cells #[.int .i64 zg, .int .i64 zp, .int .i64 zm, .int .i64 zt, .int .i64 zn, .int .i64 za1, .int .i64 zb1, .int .i64 zc1, .int .i64 zd1, .int .i64 za2, .int .i64 zb2, .int .i64 zc2, .int .i64 zd2, .slice A2 k2 c2] 41)).block _ hw2))
    have HY2 := Lib.hid (Cells.new w2 41 #[.int .i64 zg, .int .i64 zp, .int .i64 zm, .int .i64 zt, .int .i64 zn, .int .i64 za1, .int .i64 zb1, .int .i64 zc1, .int .i64 zd1, .int .i64 za2, .int .i64 zb2, .int .i64 zc2, .int .i64 zd2, .slice A2 k2 c2])
    have HSY2 := Lib.hid (Soft.new w2 41 #[.int .i64 zg, .int .i64 zp, .int .i64 zm, .int .i64 zt, .int .i64 zn, .int .i64 za1, .int .i64 zb1, .int .i64 zc1, .int .i64 zd1, .int .i64 za2, .int .i64 zb2, .int .i64 zc2, .int .i64 zd2, .slice A2 k2 c2])
    have HL1c := Lib.hid (HL1b.out.below ((below_al w2 (.cells #[.int .i64 zg, .int .i64 zp, .int .i64 zm, .int .i64 zt, .int .i64 zn, .int .i64 za1, .int .i64 zb1, .int .i64 zc1, .int .i64 zd1, .int .i64 za2, .int .i64 zb2, .int .i64 zc2, .int .i64 zd2, .slice A2 k2 c2] 41)).mono (Nat.le_of_lt hw2)))
    have HL2c := Lib.hid (HL2.out.below (below_al w2 (.cells #[.int .i64 zg, .int .i64 zp, .int .i64 zm, .int .i64 zt, .int .i64 zn, .int .i64 za1, .int .i64 zb1, .int .i64 zc1, .int .i64 zd1, .int .i64 za2, .int .i64 zb2, .int .i64 zc2, .int .i64 zd2, .slice A2 k2 c2] 41)))
    have l0 := HX2a.out 0 _ rfl; have l1 := HX2a.out 1 _ rfl; have l2 := HX2a.out 2 _ rfl; have l3 := HX2a.out 3 _ rfl; have l4 := HX2a.out 4 _ rfl; have l5 := HX2a.out 5 _ rfl; have l6 := HX2a.out 6 _ rfl; have l7 := HX2a.out 7 _ rfl; have l8 := HX2a.out 8 _ rfl; have l9 := HX2a.out 9 _ rfl; have l10 := HX2a.out 10 _ rfl; have l11 := HX2a.out 11 _ rfl; have l12 := HX2a.out 12 _ rfl; have l13 := HX2a.out 13 _ rfl
    have m0 := HY2.out 0 _ rfl; have m1 := HY2.out 1 _ rfl; have m2 := HY2.out 2 _ rfl; have m3 := HY2.out 3 _ rfl; have m4 := HY2.out 4 _ rfl; have m5 := HY2.out 5 _ rfl; have m6 := HY2.out 6 _ rfl; have m7 := HY2.out 7 _ rfl; have m8 := HY2.out 8 _ rfl; have m9 := HY2.out 9 _ rfl; have m10 := HY2.out 10 _ rfl; have m11 := HY2.out 11 _ rfl; have m12 := HY2.out 12 _ rfl; have m13 := HY2.out 13 _ rfl
    go_wp2_with fail
    clear l0 l1 l2 l3 l4 l5 l6 l7 l8 l9 l10 l11 l12 l13 m0 m1 m2 m3 m4 m5 m6 m7 m8 m9 m10 m11 m12 m13
    refine (QA.out _ w1.heap.size w2.heap.size A1 k1 c1 A2 k2 c2 HL1c.out HL2c.out hk1 hk2 (by simp; omega) (by simp)).mono ?_
    rintro e w3 ⟨rfl, hbel⟩
    have HB3 := Lib.hid (HB2a.out.trans (hbel.mono HB2a.out.size))
    have HX3 := Lib.hid (HX2a.out.below hbel (by simp; omega))
    have HS3 := Lib.hid (HS2a.out.same (hbel.block _ (by simp; omega)))
    have HY3 := Lib.hid (HY2.out.below hbel (by simp))
    have HSY3 := Lib.hid (HSY2.out.same (hbel.block _ (by simp)))
    have hw3 : w2.heap.size < w3.heap.size := by have := hbel.size; simp at this; omega
    clear hbel
    rcases Int.lt_or_le sc 0 with q | q
    · go_wp2_with fail
      refine (AW.out _ HB3.out).mono ?_
      rintro e w4 ⟨rfl, hbel⟩
      have HB4 := Lib.hid (HB3.out.trans (hbel.mono HB3.out.size))
      clear hbel
      go_wp2
      go_ret
      exact ⟨rfl, HB4.out⟩
    rcases Int.lt_or_le sc 1048576 with q2 | q2
    rotate_left
    · go_wp2_with fail
      refine (AW.out _ HB3.out).mono ?_
      rintro e w4 ⟨rfl, hbel⟩
      have HB4 := Lib.hid (HB3.out.trans (hbel.mono HB3.out.size))
      clear hbel
      go_wp2
      go_ret
      exact ⟨rfl, HB4.out⟩
    have E2 := Lib.hid (E1.out q q2)
    go_wp2_with fail
    refine (E2.out _ HB3.out).mono ?_
    rintro e w4 ⟨A5, c5, rfl, hown, hbel⟩
    rw [HFL.out] at hown ⊢
    obtain ⟨_, _, hvv', hc1, hc2⟩ := hown.form
    injection hvv' with hv1 hv2 hv3
    subst hv3
    have HO4 : Hid (Own w4 w3.heap.size 5 (.slice A5 64 c5) 64 fr) := hown
    have HB4 := Lib.hid (HB3.out.trans (hbel.mono HB3.out.size))
    have hw1w3 : w1.heap.size < w3.heap.size := by omega
    have HX4 := Lib.hid (HX3.out.below hbel hw1w3)
    have HS4 := Lib.hid (HS3.out.same (hbel.block _ hw1w3))
    have HY4 := Lib.hid (HY3.out.below hbel hw3)
    have HSY4 := Lib.hid (HSY3.out.same (hbel.block _ hw3))
    have hw4 : w2.heap.size < w4.heap.size := Nat.lt_of_lt_of_le hw3 hbel.size
    clear hown hbel hv1 hv2
    go_wp2_with fail
    refine (D3.out _ w4 A5 c5 HB4.out HO4.out.byt (Nat.le_refl _) hc1 hc2).mono ?_
    rintro e w5 ⟨A3, k3, c3, rfl, hla, hk3, hbel, hlo⟩
    have HL5 := Lib.hid hla
    have HLO5 := Lib.hid hlo
    have HB5 := Lib.hid (HB4.out.trans (hbel.mono HB4.out.size))
    have hw1w4 : w1.heap.size < w4.heap.size := by omega
    have HX5 := Lib.hid (HX4.out.below hbel hw1w4)
    have HS5 := Lib.hid (HS4.out.same (hbel.block _ hw1w4))
    have HY5 := Lib.hid (HY4.out.below hbel hw4)
    have HSY5 := Lib.hid (HSY4.out.same (hbel.block _ hw4))
    have HO5 := Lib.hid (HO4.out.keep hbel)
    have hw5 : w2.heap.size < w5.heap.size := Nat.lt_of_lt_of_le hw4 hbel.size
    clear hbel hla hlo
    go_wp2_with (refine wpList_store_mid rfl 41 (.tmp 7) (.tmp 57) rfl w1.heap.size 0 #[.int .i64 zg', .int .i64 zp', .int .i64 zm', .int .i64 zt', .int .i64 zn', .int .i64 za1', .int .i64 zb1', .int .i64 zc1', .int .i64 zd1', .int .i64 za2', .int .i64 zb2', .int .i64 zc2', .int .i64 zd2', .slice A3 k3 c3] rfl rfl (setC_there HX5.out HS5.out rfl) (by kernel_rfl) (by kernel_rfl) ?_; generalize hw6 : World.setCells _ _ _ _ = w6; have hg6 : Set14 w5 w6 w1.heap.size [.int .i64 zg', .int .i64 zp', .int .i64 zm', .int .i64 zt', .int .i64 zn', .int .i64 za1', .int .i64 zb1', .int .i64 zc1', .int .i64 zd1', .int .i64 za2', .int .i64 zb2', .int .i64 zc2', .int .i64 zd2', .slice A3 k3 c3] := (by rw [← hw6]; exact setC_mk HX5.out HS5.out rfl); have HG6 := Lib.hid hg6; clear hw6 hg6)
    have hne12 : ¬ w2.heap.size = w1.heap.size := by omega
    have HB6 := Lib.hid (HB5.out.trans (HG6.out.bel w.heap.size HB1.out.size))
    have HL6 := Lib.hid (lat_set HG6.out HL5.out (fun ad e h => by have := HLO5.out ad e; omega))
    have HY6 := Lib.hid (HY5.out.same (HG6.out.block _ hne12))
    have HSY6 := Lib.hid (HSY5.out.same (HG6.out.block _ hne12))
    have HO6 : Hid (Own w6 w3.heap.size 5 (.slice A5 64 c5) 64 fr) := HO5.out.same (fun k e => HG6.out.block k (fun e' => by have := HO5.out.ge e; omega))
    have hz6 : w6.heap.size = w5.heap.size := HG6.out.size
    refine (D4.out _ w6 A5 c5 HO6.out.byt (Nat.le_refl _) hc1 hc2).mono ?_
    rintro e w7 ⟨A4, k4, c4, rfl, hla, hk4, hbel, hlo⟩
    have HL7 := Lib.hid hla
    have HLO7 := Lib.hid hlo
    have HB7 := Lib.hid (HB6.out.trans (hbel.mono HB6.out.size))
    have hz16 : w1.heap.size < w6.heap.size := by omega
    have hz26 : w2.heap.size < w6.heap.size := by omega
    have HX7 := Lib.hid (HG6.out.cells.below hbel hz16)
    have HY7 := Lib.hid (HY6.out.below hbel hz26)
    have HSY7 := Lib.hid (HSY6.out.same (hbel.block _ hz26))
    have HL6b := Lib.hid (HL6.out.below (hbel.mono (by omega)))
    have hw7 : w5.heap.size ≤ w7.heap.size := by have := hbel.size; omega
    clear hbel hla hlo
    go_wp2_with (refine wpList_store_mid rfl 41 (.tmp 9) (.tmp 63) rfl w2.heap.size 0 #[.int .i64 zg', .int .i64 zp', .int .i64 zm', .int .i64 zt', .int .i64 zn', .int .i64 za1', .int .i64 zb1', .int .i64 zc1', .int .i64 zd1', .int .i64 za2', .int .i64 zb2', .int .i64 zc2', .int .i64 zd2', .slice A4 k4 c4] rfl rfl (setC_there HY7.out HSY7.out rfl) (by kernel_rfl) (by kernel_rfl) ?_; generalize hw8 : World.setCells _ _ _ _ = w8; have hg8 : Set14 w7 w8 w2.heap.size [.int .i64 zg', .int .i64 zp', .int .i64 zm', .int .i64 zt', .int .i64 zn', .int .i64 za1', .int .i64 zb1', .int .i64 zc1', .int .i64 zd1', .int .i64 za2', .int .i64 zb2', .int .i64 zc2', .int .i64 zd2', .slice A4 k4 c4] := (by rw [← hw8]; exact setC_mk HY7.out HSY7.out rfl); have HG8 := Lib.hid hg8; clear hw8 hg8)
    have hne21 : ¬ w1.heap.size = w2.heap.size := by omega
    have HB8 := Lib.hid (HB7.out.trans (HG8.out.bel w.heap.size (Nat.le_trans HB1.out.size (Nat.le_of_lt hw2))))
    have HLa8 := Lib.hid (lat_set HG8.out HL6b.out (fun ad e h => by have := HLO5.out ad e; omega))
    have HLb8 := Lib.hid (lat_set HG8.out HL7.out (fun ad e h => by have := HLO7.out ad e; omega))
    have HX8 := Lib.hid (HX7.out.same (HG8.out.block _ hne21))
    have hz8 : w8.heap.size = w7.heap.size := HG8.out.size
    refine (AW.out _ HB8.out).mono ?_
    rintro e w9 ⟨rfl, hbel⟩
    have HB9 := Lib.hid (HB8.out.trans (hbel.mono HB8.out.size))
    have HX9 := Lib.hid (HX8.out.below hbel (by omega))
    have HY9 := Lib.hid (HG8.out.cells.below hbel (by omega))
    have HLa9 := Lib.hid (HLa8.out.below (hbel.mono (by omega)))
    have HLb9 := Lib.hid (HLb8.out.below (hbel.mono (by omega)))
    have hz9 := hbel.size
    clear hbel
    have l0 := HX9.out 0 _ rfl; have l1 := HX9.out 1 _ rfl; have l2 := HX9.out 2 _ rfl; have l3 := HX9.out 3 _ rfl; have l4 := HX9.out 4 _ rfl; have l5 := HX9.out 5 _ rfl; have l6 := HX9.out 6 _ rfl; have l7 := HX9.out 7 _ rfl; have l8 := HX9.out 8 _ rfl; have l9 := HX9.out 9 _ rfl; have l10 := HX9.out 10 _ rfl; have l11 := HX9.out 11 _ rfl; have l12 := HX9.out 12 _ rfl; have l13 := HX9.out 13 _ rfl
    have m0 := HY9.out 0 _ rfl; have m1 := HY9.out 1 _ rfl; have m2 := HY9.out 2 _ rfl; have m3 := HY9.out 3 _ rfl; have m4 := HY9.out 4 _ rfl; have m5 := HY9.out 5 _ rfl; have m6 := HY9.out 6 _ rfl; have m7 := HY9.out 7 _ rfl; have m8 := HY9.out 8 _ rfl; have m9 := HY9.out 9 _ rfl; have m10 := HY9.out 10 _ rfl; have m11 := HY9.out 11 _ rfl; have m12 := HY9.out 12 _ rfl; have m13 := HY9.out 13 _ rfl
    go_wp2_with fail
    clear l0 l1 l2 l3 l4 l5 l6 l7 l8 l9 l10 l11 l12 l13 m0 m1 m2 m3 m4 m5 m6 m7 m8 m9 m10 m11 m12 m13
    refine (QB.out _ w5.heap.size w7.heap.size A3 k3 c3 A4 k4 c4 HLa9.out HLb9.out hk3 hk4 (by omega) (by omega)).mono ?_
    rintro e w10 ⟨rfl, hbel⟩
    have HB10 := Lib.hid (HB9.out.trans (hbel.mono HB9.out.size))
    clear hbel
    go_wp2_with fail
    go_ret
    exact ⟨rfl, HB10.out⟩
end Go.Proofs.YthjnbdbbeidhgaaDoor
