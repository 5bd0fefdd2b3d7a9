/- PackerScript: the walk (tools/mkpscript.py). -/
import Derived.Test.YtecmopfaeopmdaaDoorPackSame
import Derived.Test.YtecmopfaeopmdaaDoorShort
import Derived.Deep.CutBlock
import Derived.Deep.DeepCutAuto
import Derived.Deep.RegionHeld3
namespace Go.Proofs.YtecmopfaeopmdaaDoor
open Go.RowKit Go.Sort

theorem BytesSeg.yes {bs : List UInt8} {n : Nat} {off m : Int} {w w' : World} {e : Ending} (hs : segOk n off m) (h : BytesSeg bs n off m w e w') : ∃ A1 c1, e = .returned (.slice A1 m.toNat c1) ∧ Byt w' w'.heap.size A1 m.toNat ((bs.drop off.toNat).take m.toNat) ∧ m.toNat ≤ c1 ∧ c1 ≤ 9223372036854775807 ∧ Below w.heap.size w w' := by
  rcases h with ⟨h1, _⟩ | ⟨_, h2⟩
  · exact absurd hs h1
  · exact h2
theorem BytesSeg.no {bs : List UInt8} {n : Nat} {off m : Int} {w w' : World} {e : Ending} (hs : ¬ segOk n off m) (h : BytesSeg bs n off m w e w') : e = .returned (.slice none 0 0) ∧ Below w.heap.size w w' := by
  rcases h with ⟨_, h1⟩ | ⟨h2, _⟩
  · exact h1
  · exact absurd h2 hs
theorem mlen (n k : Nat) : ∃ m, ((n ≤ k ∧ m = n) ∨ (k < n ∧ m = k)) ∧ m ≤ n ∧ m ≤ k := by
  by_cases h : n ≤ k
  · exact ⟨n, .inl ⟨h, rfl⟩, by omega, by omega⟩
  · exact ⟨k, .inr ⟨by omega, rfl⟩, by omega, by omega⟩

set_option maxRecDepth 100000 in
set_option maxHeartbeats 16000000 in
theorem packerScript_any (a b c d sl sq : Int) (Ao : Option Addr) (no co : Nat) (os : List Op7) (w : World) (ht : TabAt w) (h0 : 0 < w.heap.size) (ha : I64 a) (hb : I64 b) (hc : I64 c) (hd : I64 d) (hos : OAt w w.heap.size Ao no os) :
    Calls Tryd.prog 5 #[.agg #[.int .i64 a, .int .i64 b, .int .i64 c, .int .i64 d, .int .i64 sl, .int .i64 sq, .slice Ao no co]] w fun e w' => e = .returned (.bool true) ∧ Below w.heap.size w w' := by
  have HSZ := Lib.hid h0
  have HT : Hid (∀ w', Below w.heap.size w w' → TabAt w') := fun w' hb => ht.below hb h0
  have HOS := Lib.hid hos
  have AW : Hid (∀ w', Below w.heap.size w w' → Calls Tryd.prog 9 #[] w' fun e w'' => e = .returned (.bool true) ∧ Below w'.heap.size w' w'') := fun w' hb => packAwake_any w' (HT.out _ hb) (Nat.lt_of_lt_of_le HSZ.out hb.size)
  have HB0 : Hid (Below w.heap.size w (w.alloc (.cells #[.int .i64 a, .int .i64 b, .int .i64 c, .int .i64 d, .int .i64 sl, .int .i64 sq, .slice Ao no co] 50))) := (Below.refl _ _).alloc (Nat.le_refl _) _
  have HX0 := Lib.hid (Cells.new w 50 #[.int .i64 a, .int .i64 b, .int .i64 c, .int .i64 d, .int .i64 sl, .int .i64 sq, .slice Ao no co])
  obtain ⟨pm, hpm⟩ : ∃ pm, pmay a b c d sl sq = pm := ⟨_, rfl⟩
  have MY := Lib.hid (refMay_any a b c d sl sq ha hb hc hd pm hpm)
  have HJ := Lib.hid (show I64 a ∧ I64 b ∧ I64 c ∧ I64 d from ⟨ha, hb, hc, hd⟩)
  have HPM := Lib.hid hpm
  clear ht h0 hos hpm ha hb hc hd
  go_enter Tryd.func5, Tryd.ntmps5
  go_upto_region 1 with fail
  go_cut [3, 4, 5, 6] (fun x y z u wx => ∃ g3 : Nat, x = .pointer (some ⟨g3, 0, none⟩) ∧ y = .int .i64 sl ∧ z = .int .i64 sq ∧ u = .slice Ao no co ∧ Cells wx g3 [.int .i64 a, .int .i64 b, .int .i64 c, .int .i64 d] ∧ w.heap.size ≤ g3 ∧ Below w.heap.size w wx)
  case first =>
    have s0 := HX0.out 0 _ rfl
    have s1 := HX0.out 1 _ rfl
    have s2 := HX0.out 2 _ rfl
    have s3 := HX0.out 3 _ rfl
    have s4 := HX0.out 4 _ rfl
    have s5 := HX0.out 5 _ rfl
    have s6 := HX0.out 6 _ rfl
    go_region_held3 (fun w' => w'.cell? ⟨w.heap.size, 0, none⟩ = some (.int .i64 a) ∧ w'.cell? ⟨w.heap.size, 1, none⟩ = some (.int .i64 b) ∧ w'.cell? ⟨w.heap.size, 2, none⟩ = some (.int .i64 c) ∧ w'.cell? ⟨w.heap.size, 3, none⟩ = some (.int .i64 d) ∧ w'.cell? ⟨w.heap.size, 4, none⟩ = some (.int .i64 sl) ∧ w'.cell? ⟨w.heap.size, 5, none⟩ = some (.int .i64 sq) ∧ w'.cell? ⟨w.heap.size, 6, none⟩ = some (.slice Ao no co)) (go_keep) (first | fail)
    all_goals
      go_wp2_with fail
      (try go_simp)
      go_meet
      refine ⟨w.heap.size + 1, rfl, rfl, rfl, rfl, ?_, by omega, ?_⟩
      · have h := Cells.new (w.alloc (.cells #[.int .i64 a, .int .i64 b, .int .i64 c, .int .i64 d, .int .i64 sl, .int .i64 sq, .slice Ao no co] 50)) 23 #[.int .i64 a, .int .i64 b, .int .i64 c, .int .i64 d]
        rw [World.size_alloc] at h
        exact h
      · exact Below.drew (HB0.out.alloc HB0.out.size _)
  case rest =>
    obtain ⟨g3, rfl, rfl, rfl, rfl, hx3, hg3, hbel⟩ := hcut
    have HX3 := Lib.hid hx3
    have HB3 := Lib.hid hbel
    have HG3 := Lib.hid hg3
    have k0 := hx3 0 _ rfl
    have k1 := hx3 1 _ rfl
    have k2 := hx3 2 _ rfl
    have k3 := hx3 3 _ rfl
    clear hx3 hbel hg3 HB0 HX0
    obtain ⟨w3, hw3⟩ : ∃ x, x = wc := ⟨_, rfl⟩
    subst hw3
    by_cases hp0 : pm = 0
    rotate_left
    · as_aux_lemma =>
        have NN := Lib.hid (pnew_not a b c d sl sq HJ.out.1 HJ.out.2.1 HJ.out.2.2.1 HJ.out.2.2.2 pm HPM.out hp0)
        have hp0b : (pm != 0) = true := by simpa using hp0
        go_wp2_with (first
          | (go_at_call 10; refine (NN.out _).mono ?_; rintro e w4 ⟨rfl, hb4⟩; have HB4 := Lib.hid (HB3.out.trans (hb4.mono HB3.out.size)); have HX4 := Lib.hid (HX3.out.below hb4 HX3.out.lt); have m0 := HX4.out 0 _ rfl; have m1 := HX4.out 1 _ rfl; have m2 := HX4.out 2 _ rfl; have m3 := HX4.out 3 _ rfl; clear hb4)
          | (go_at_call 20; refine (MY.out _).mono ?_; rintro e w5 ⟨rfl, hb5⟩; have HB5 := Lib.hid (HB4.out.trans (hb5.mono HB4.out.size)); clear hb5)
          | (go_at_call 9; refine (AW.out _ HB5.out).mono ?_; rintro e w6 ⟨rfl, hb6⟩; have HB6 := Lib.hid (HB5.out.trans (hb6.mono HB5.out.size)); clear hb6))
        go_ret
        exact ⟨rfl, HB6.out⟩
    subst hp0
    have hcs := pmay_cases a b c d sl sq
    rw [HPM.out] at hcs
    obtain ⟨hf, l0, l1, q1, q2⟩ : form a b c d = true ∧ 0 ≤ sl ∧ sl < d ∧ 1 ≤ sq ∧ sq ≤ 281474976710655 := by
      rcases hcs with ⟨_, h⟩ | ⟨_, _, h⟩ | ⟨_, _, _, h⟩ | ⟨_, _, _, _, h⟩ | ⟨_, _, _, _, _, h⟩ | ⟨h1, h2, h3, h4, h5, _⟩
      · omega
      · omega
      · omega
      · omega
      · omega
      · exact ⟨h1, h2, h3, h4, h5⟩
    clear hcs
    obtain ⟨sn, rfl⟩ : ∃ sn : Nat, sl = sn := ⟨sl.toNat, by omega⟩
    obtain ⟨_, _, hbv, c2, c2', _, d1, d2⟩ := form_true hf
    have m1 : 0 ≤ (sn : Int) * c := Int.mul_nonneg (by omega) (by omega)
    have m2 : (sn : Int) * c ≤ 15 * 2048 := Int.mul_le_mul (by omega) c2' (by omega) (by omega)
    have NW : Hid (∀ w, Calls Tryd.prog 10 #[.agg #[.int .i64 a, .int .i64 b, .int .i64 c, .int .i64 d], .int .i64 (sn : Int), .int .i64 sq] w fun e w' => ∃ p, e = .returned (.tuple #[.pointer (some ⟨p, 0, none⟩), .int .i64 0]) ∧ w.heap.size ≤ p ∧ Pk w' p a b c d (74 + sn * c) sq none 0 0 0 [] ∧ Below w.heap.size w w') := fun w =>
      pnew_any a b c d sn sq HJ.out.1 HJ.out.2.1 HJ.out.2.2.1 HJ.out.2.2.2 hf l1 q1 q2 w
    obtain ⟨f, hfv⟩ : ∃ f, 74 + (sn : Int) * c = f := ⟨_, rfl⟩
    rw [hfv] at NW
    have hfr : 74 ≤ f ∧ f ≤ 31000 := by omega
    have HFV := Lib.hid hfv
    obtain ⟨cp, hcp⟩ : ∃ cp, capS a b c d = cp := ⟨_, rfl⟩
    obtain ⟨hcpe, hcpr1, hcpr2, _, _, _⟩ := capS_in hf
    rw [hcp] at hcpe hcpr1 hcpr2
    have hcp59 : cp % 59 = 0 := by omega
    have HCP := Lib.hid hcp
    have HFM := Lib.hid hf
    clear hfv m1 m2 hcp hf hcpe
    go_upto_region 9 with (first
      | (go_at_call 10; refine (NW.out _).mono ?_; rintro e w4 ⟨p, rfl, hp, hpk, hb4⟩; have HB4 := Lib.hid (HB3.out.trans (hb4.mono HB3.out.size)); have HX4 := Lib.hid (HX3.out.below hb4 HX3.out.lt); have m0 := HX4.out 0 _ rfl; have m1 := HX4.out 1 _ rfl; have m2 := HX4.out 2 _ rfl; have m3 := HX4.out 3 _ rfl; have HP4 := Lib.hid hpk; have HPL := Lib.hid (Nat.lt_of_lt_of_le HX3.out.lt hp); clear hb4 hpk hp)
      | (go_at_call 20; refine (MY.out _).mono ?_; rintro e w5 ⟨rfl, hb5⟩; have HB5 := Lib.hid (HB4.out.trans (hb5.mono HB4.out.size)); have HX5 := Lib.hid (HX4.out.below hb5 HX4.out.lt); have n0 := HX5.out 0 _ rfl; have n1 := HX5.out 1 _ rfl; have n2 := HX5.out 2 _ rfl; have n3 := HX5.out 3 _ rfl; have HP5 := Lib.hid (HP4.out.below hb5); clear hb5))
    go_cut [10, 11] (fun mv iv wx => ∃ q : Nat, mv = .pointer (some ⟨q, 0, none⟩) ∧ iv = .int .i64 0 ∧ Pk wx p a b c d f sq none 0 0 0 [] ∧ Pk wx q a b c d (sn : Int) sq none 0 0 0 [] ∧ p < q ∧ Cells wx g3 [.int .i64 a, .int .i64 b, .int .i64 c, .int .i64 d] ∧ Below w.heap.size w wx)
    case first =>
      go_wp2_with fail
      go_meet
      exact ⟨w5.heap.size, rfl, rfl, HP5.out.below (below_alloc _ _), ⟨Cells.new w5 _ _, Soft.new w5 _ _, Own.nil _ _ _⟩, HP5.out.lt, HX5.out.below (below_alloc _ _) HX5.out.lt, HB5.out.alloc HB5.out.size _⟩
    case rest =>
      obtain ⟨q, rfl, rfl, hpk, hqk, hpq, hx7, hbel⟩ := hcut
      obtain ⟨w7, hw7⟩ : ∃ x, x = wc := ⟨_, rfl⟩
      subst hw7
      have HX7 := Lib.hid hx7
      have HB7 := Lib.hid hbel
      have hplt := hpk.lt
      have hqlt := hqk.lt
      have HNE : Hid (p ≠ q ∧ p < w7.heap.size ∧ q < w7.heap.size) := ⟨Nat.ne_of_lt hpq, hplt, hqlt⟩
      have hg3p : g3 < p := HPL.out
      have HSS0 : Hid (Ss w7 w7 p q a b c d f (sn : Int) sq none 0 0 ((0 : Nat) : Int) [] none 0 0 ((0 : Nat) : Int) []) :=
        ⟨hpk, hqk, Keep.refl _ _, HNE.out, fun g e => by simp [Value.ownBlock] at e, fun g e => by simp [Value.ownBlock] at e, fun g e => by simp [Value.ownBlock] at e⟩
      have HLow : Hid (∀ wx, Keep w7 wx (fun k => k = p ∨ k = q) → Below w.heap.size w wx) := fun wx hk => HB7.out.trans (hk.below (fun k e => by have := HG3.out; rcases e with e | e <;> subst e <;> omega) HB7.out.size)
      have HLX : Hid (∀ wx, Keep w7 wx (fun k => k = p ∨ k = q) → Cells wx g3 [.int .i64 a, .int .i64 b, .int .i64 c, .int .i64 d]) := fun wx hk => HX7.out.kept hk HX7.out.lt (fun e => by rcases e with e | e <;> omega)
      have h0p : 0 < p := by omega
      clear hpk hqk hx7 hbel k0 k1 k2 k3 m0 m1 m2 m3 n0 n1 n2 n3 HX3 HX4 HX5 HB3 HB4 HB5 HP4 HP5 NW MY HPL HPM
      go_wp2_with fail
      go_loopw [11] (fun iv wr => ∃ (i tn n : Nat) (A : Option Addr) (cap : Nat) (A' : Option Addr) (cap' : Nat) (bs : List UInt8), iv = .int .i64 (i : Int) ∧ i ≤ 20 ∧ i ≤ no ∧ (n : Int) ≤ cp ∧ tn * 59 ≤ n ∧ Ss w7 wr p q a b c d f (sn : Int) sq A n cap (tn : Int) bs A' n cap' (tn : Int) bs) (fun iv _ => 20 - (intOf iv).toNat)
      case atStart => exact ⟨0, 0, 0, none, 0, none, 0, [], rfl, by omega, by omega, by omega, by omega, HSS0.out⟩
      case round =>
        obtain ⟨i, tn, n, A, cap, A', cap', bs, rfl, hi, hino, hn, htn, hss⟩ := hrel
        have HF := Lib.hid hss
        clear hss
        by_cases hin : i < no
        rotate_left
        · have hin1 : ¬ (i : Int) < (no : Int) := by omega
          clear hin
          go_wp2_with (go_at_call 9; refine (AW.out _ (HLow.out _ HF.out.keep)).mono ?_; rintro e w2 ⟨rfl, hbel⟩; have HB2 := Lib.hid ((HLow.out _ HF.out.keep).trans (hbel.mono (HLow.out _ HF.out.keep).size)); clear hbel)
          go_ret
          exact ⟨rfl, HB2.out⟩
        have hin1 : (i : Int) < (no : Int) := by omega
        by_cases hi20 : i = 20
        · subst hi20
          go_wp2_with (go_at_call 9; refine (AW.out _ (HLow.out _ HF.out.keep)).mono ?_; rintro e w2 ⟨rfl, hbel⟩; have HB2 := Lib.hid ((HLow.out _ HF.out.keep).trans (hbel.mono (HLow.out _ HF.out.keep).size)); clear hbel)
          go_ret
          exact ⟨rfl, HB2.out⟩
        have hi1 : (i : Int) < 20 := by omega
        have hi0 : (0 : Int) ≤ (i : Int) := by omega
        have hile : i + 1 ≤ 20 := by omega
        have hile2 : i + 1 ≤ no := by omega
        have hn9 : n ≤ 120773 := by omega
        obtain ⟨op, ad, rfl, hadlt, hop⟩ := HOS.out.get hin
        have hop' := hop.below (HLow.out _ HF.out.keep) (by rw [addr_block]; exact hadlt)
        obtain ⟨kd, ⟨ki, Ak, nk, ck, key, Av, nv, cv, val, ex⟩, off, mm⟩ := op
        obtain ⟨z0, z1, z2, z3, z4, z5, z6, _⟩ := hop'
        obtain ⟨_, _, _, _, _, _, _, hky, hvl, hok, _, oo, om⟩ := hop
        dsimp only at z0 z1 z2 z3 z4 z5 z6 hky hvl oo om
        obtain ⟨_, _, k1, k2, k3, k4⟩ := hok
        dsimp only at k1 k2 k3 k4
        clear hin hi20 hadlt

        go_upto_block 2 with fail
        go_cut [] (fun wx => ∃ (tn' m : Nat) (A1 : Option Addr) (c1 : Nat) (A1' : Option Addr) (c1' : Nat) (bs1 : List UInt8), (m : Int) ≤ cp ∧ tn' * 59 ≤ m ∧ Ss w7 wx p q a b c d f (sn : Int) sq A1 m c1 (tn' : Int) bs1 A1' m c1' (tn' : Int) bs1)
        case rest =>
          obtain ⟨T, m, A1, c1, A1', c1', bs1, hmc, htm, hss⟩ := hcut
          have HFR := Lib.hid hss
          clear hss hky hvl k1 k2 k3 k4 oo om z0 z1 z2 z3 z4 z5 z6
          have hm9 : m ≤ 120773 := by omega
          go_wp2_with fail
          have OFq := Lib.hid (fun (dd : Nat) (oo : Array Obj) => Calls.regrown_of ((off_any a b c d f sq (T : Int) p A1 m c1 bs1 _ (HFR.out.pkp.below (below_regrown _ dd oo))).mono (fun e w' (h : e = .returned (.int .i64 (m : Int)) ∧ _ = w') => ⟨h.1, by rw [← h.2]; exact Below.refl _ _⟩)))
          have RMq := Lib.hid (fun (dd : Nat) (oo : Array Obj) => Calls.regrown_of (room_any a b c d f sq (T : Int) p A1 m c1 bs1 cp HJ.out.1 HJ.out.2.1 HJ.out.2.2.1 HJ.out.2.2.2 HCP.out (by omega) _ (HFR.out.pkp.below (below_regrown _ dd oo))))
          have CPq := Lib.hid (fun (wx : World) (dd : Nat) (oo : Array Obj) => Calls.regrown_of (refCap_any a b c d HFM.out cp HCP.out (grow (redrawn wx dd) oo)))
          have e6 := fun dd oo => cell_regrown (HFR.out.pkq.cells 6 _ rfl) dd oo
          have e0 := fun dd oo => cell_regrown (HLX.out _ HFR.out.keep 0 _ rfl) dd oo
          have e1 := fun dd oo => cell_regrown (HLX.out _ HFR.out.keep 1 _ rfl) dd oo
          have e2 := fun dd oo => cell_regrown (HLX.out _ HFR.out.keep 2 _ rfl) dd oo
          have e3 := fun dd oo => cell_regrown (HLX.out _ HFR.out.keep 3 _ rfl) dd oo
          have ew : IntKind.i64.wrap (cp - (m : Int)) = cp - (m : Int) := IntWalk.i64_in _ (by omega)
          refine wp_region_quiet_below (by kernel_rfl) (by kernel_rfl) ?_
          repeat (first | go_big_quiet_step ((first | (go_at_call 16; exact OFq.out _ _) | (go_at_call 12; exact RMq.out _ _) | (go_at_call 26; exact CPq.out _ _ _))) | quiet_step ((first | (go_at_call 16; exact OFq.out _ _) | (go_at_call 12; exact RMq.out _ _) | (go_at_call 26; exact CPq.out _ _ _))))
          refine wpQuiet_nil ?_
          intro wE hw'
          have HEE := Lib.hid (HFR.out.later (below_of_regrown hw'))
          clear hw' OFq RMq CPq e6 e0 e1 e2 e3
          go_wp2_with fail
          go_roundw
          case rel => exact ⟨i + 1, T, m, A1, c1, A1', c1', bs1, by go_num, hile, hile2, hmc, htm, HEE.out⟩
          case measure => simp [intOf]; omega
        case first =>

          by_cases hk0 : kd = 0
          · as_aux_lemma =>
              subst hk0
              obtain ⟨mk, hmk, hmk1, hmk2⟩ := mlen nk 260
              obtain ⟨mv, hmv, hmv1, hmv2⟩ := mlen nv 200
              have SH := Lib.hid (short_any ki ex Ak Av nk ck nv cv mk mv k1 k3 k2 k4 hmk hmv)
              obtain ⟨r, hr⟩ : ∃ r, rencS b sq (n : Int) ki ex (key.take mk) (val.take mv) = r := ⟨_, rfl⟩
              obtain ⟨x, y, z, m, bs1, hnm, hmc, ⟨u, hu⟩, hput⟩ := put_same cp n bs r hn
              have HKV : Hid (Byt w w.heap.size Ak mk (key.take mk) ∧ Byt w w.heap.size Av mv (val.take mv)) := ⟨hky.take hmk1, hvl.take hmv1⟩
              have hm9 : m ≤ 120773 := by omega
              have htm : tn * 59 ≤ m := by omega
              have PT : Hid (∀ (wx : World), Below w.heap.size w wx → ∀ (AA : Option Addr) (cc : Nat), Pk wx p a b c d f sq AA n cc (tn : Int) bs → Calls Tryd.prog 11 #[.pointer (some ⟨p, 0, none⟩), .agg #[.int .i64 ki, .slice Ak mk ck, .slice Av mv cv, .int .i64 ex]] wx fun e w' =>
                  e = .returned (.tuple #[.int .i64 x, .int .i64 y, .int .i64 z]) ∧ ∃ A1 c1, Pk w' p a b c d f sq A1 m c1 (tn : Int) bs1 ∧ Far wx w' p (Value.slice AA n cc).ownBlock ∧ Born wx (Value.slice AA n cc).ownBlock (Value.slice A1 m c1).ownBlock) := fun wx hbx AA cc hpk =>
                (pput_any a b c d f sq (tn : Int) cp p AA n cc bs ki ex (key.take mk) (val.take mv) Ak Av mk ck mv cv w.heap.size wx (HT.out _ hbx) (Nat.lt_of_lt_of_le HSZ.out hbx.size) hpk HJ.out.1 HJ.out.2.1 HJ.out.2.2.1 HJ.out.2.2.2 HCP.out (by omega) (HKV.out.1.below hbx) (HKV.out.2.below hbx) hbx.size (by omega) (by omega) (by omega) r hr).mono fun e w' h => hput a b c d f sq p (tn : Int) AA cc wx e w' hpk h
              have RT : Hid (∀ (wx : World), Below w.heap.size w wx → ∀ (AA : Option Addr) (cc : Nat), Pk wx q a b c d (sn : Int) sq AA n cc (tn : Int) bs → Calls Tryd.prog 21 #[.pointer (some ⟨q, 0, none⟩), .agg #[.int .i64 ki, .slice Ak mk ck, .slice Av mv cv, .int .i64 ex]] wx fun e w' =>
                  e = .returned (.tuple #[.int .i64 x, .int .i64 y, .int .i64 z]) ∧ ∃ A1 c1, Pk w' q a b c d (sn : Int) sq A1 m c1 (tn : Int) bs1 ∧ Far wx w' q (Value.slice AA n cc).ownBlock ∧ Born wx (Value.slice AA n cc).ownBlock (Value.slice A1 m c1).ownBlock) := fun wx hbx AA cc hpk =>
                (rput_any a b c d (sn : Int) sq (tn : Int) cp q AA n cc bs ki ex (key.take mk) (val.take mv) Ak Av mk ck mv cv w.heap.size wx hpk HFM.out HCP.out (by omega) (HKV.out.1.below hbx) (HKV.out.2.below hbx) hbx.size (by omega) (by omega) (by omega) (by omega) r hr).mono fun e w' h => hput a b c d (sn : Int) sq q (tn : Int) AA cc wx e w' hpk h
              clear hr hput hu hky hvl hmk hmv k1 k2 k3 k4
              have HXa := Lib.hid (Cells.new wr 56 #[.int .i64 0, .int .i64 ki, .slice Ak nk ck, .slice Av nv cv, .int .i64 ex, .int .i64 off, .int .i64 mm])
              have HSa := Lib.hid (Soft.new wr 56 #[.int .i64 0, .int .i64 ki, .slice Ak nk ck, .slice Av nv cv, .int .i64 ex, .int .i64 off, .int .i64 mm])
              have HBa := Lib.hid (below_alloc wr (.cells #[.int .i64 0, .int .i64 ki, .slice Ak nk ck, .slice Av nv cv, .int .i64 ex, .int .i64 off, .int .i64 mm] 56))
              go_upto_region 21 with (go_at_call 17; refine (SH.out _).mono ?_; rintro e w1 ⟨rfl, hb1⟩; have HXb := Lib.hid (HXa.out.below hb1 (by simp)); have HSb := Lib.hid (HSa.out.same (hb1.block wr.heap.size (by simp))); have HBb := Lib.hid (HBa.out.trans (hb1.mono HBa.out.size)); have y1 := HXb.out 1 _ rfl; have y2 := HXb.out 2 _ rfl; have y3 := HXb.out 3 _ rfl; have y4 := HXb.out 4 _ rfl; have f1 := HSb.out 1; have f2 := HSb.out 2; have f3 := HSb.out 3; have f4 := HSb.out 4; clear hb1)
              have HW := Lib.hid (short_store (Nat.le_refl _) HBb.out HXb.out (.int .i64 ki) (.slice Ak mk ck) (.slice Av mv cv) (.int .i64 ex))
              have HF1 := Lib.hid (HF.out.later HW.out.1)
              clear z0 z1 z2 z3 z4 z5 z6
              go_wp2_with (first
                | (go_at_call 11; refine (PT.out _ (HLow.out _ HF1.out.keep) A cap HF1.out.pkp).mono ?_; rintro e w2 ⟨rfl, A1, c1, hpk, hf, hbo⟩; have HF2 := Lib.hid (HF1.out.stepp hpk hf hbo); have HX2 := Lib.hid (HW.out.2.same (hf.block wr.heap.size HW.out.2.lt (fun e => by have := HF.out.pkp.lt; omega) (fun e => by have := HF.out.pkp.own.lt e.symm; omega))); have v1 := HX2.out 1 _ rfl; have v2 := HX2.out 2 _ rfl; have v3 := HX2.out 3 _ rfl; have v4 := HX2.out 4 _ rfl; clear hpk hf hbo)
                | (go_at_call 21; refine (RT.out _ (HLow.out _ HF2.out.keep) A' cap' HF2.out.pkq).mono ?_; rintro e w3 ⟨rfl, A1', c1', hpk, hf, hbo⟩; have HF3 := Lib.hid (HF2.out.stepq hpk hf hbo); clear hpk hf hbo))
              clear y1 y2 y3 y4 f1 f2 f3 f4 v1 v2 v3 v4 HXa HSa HBa HXb HSb HBb HW HX2 HF1 HF2 PT RT HKV SH
              (try go_simp)
              go_meet
              exact ⟨tn, m, A1, c1, A1', c1', bs1, hmc, htm, HF3.out⟩

          have hk0b : (kd == 0) = false := by simpa using hk0
          by_cases hk1 : kd = 1
          · as_aux_lemma =>
              subst hk1
              have hmc0 : ((n + padK n : Nat) : Int) ≤ cp := by unfold padK; omega
              obtain ⟨m, hm⟩ : ∃ m, n + padK n = m := ⟨_, rfl⟩
              obtain ⟨bs1, hbs1⟩ : ∃ bs1, bs ++ List.replicate (padK n) 0 = bs1 := ⟨_, rfl⟩
              have hmc : (m : Int) ≤ cp := by rw [← hm]; exact hmc0
              have htm : tn * 59 ≤ m := by omega
              have hmm : m ≤ 120773 := by omega
              have PD : Hid (∀ wx AA cc, Pk wx p a b c d f sq AA n cc (tn : Int) bs → Calls Tryd.prog 15 #[.pointer (some ⟨p, 0, none⟩)] wx fun e w' => e = .returned (.tuple #[]) ∧ ∃ A1 c1, Pg wx w' p a b c d f sq AA n cc A1 m c1 (tn : Int) bs1) := fun wx AA cc h => by
                have h := pad_any a b c d f sq (tn : Int) p AA n cc bs (by omega) wx h
                rw [hm, hbs1] at h
                exact h
              have RD : Hid (∀ wx AA cc, Pk wx q a b c d (sn : Int) sq AA n cc (tn : Int) bs → Calls Tryd.prog 22 #[.pointer (some ⟨q, 0, none⟩)] wx fun e w' => e = .returned (.tuple #[]) ∧ ∃ A1 c1, Pg wx w' q a b c d (sn : Int) sq AA n cc A1 m c1 (tn : Int) bs1) := fun wx AA cc h => by
                have h := rpad_any a b c d (sn : Int) sq (tn : Int) q AA n cc bs (by omega) wx h
                rw [hm, hbs1] at h
                exact h
              clear hm hbs1 hky hvl k1 k2 k3 k4
              have HF1 := Lib.hid (HF.out.later (below_alloc wr (.cells #[.int .i64 1, .int .i64 ki, .slice Ak nk ck, .slice Av nv cv, .int .i64 ex, .int .i64 off, .int .i64 mm] 56)))
              go_wp2_with (first
                | (go_at_call 15; refine (PD.out _ A cap HF1.out.pkp).mono ?_; rintro e w2 ⟨rfl, A1, c1, hg⟩; have HF2 := Lib.hid (HF1.out.stepp hg.pk hg.far hg.born); clear hg)
                | (go_at_call 22; refine (RD.out _ A' cap' HF2.out.pkq).mono ?_; rintro e w3 ⟨rfl, A1', c1', hg⟩; have HF3 := Lib.hid (HF2.out.stepq hg.pk hg.far hg.born); clear hg))
              clear z0 z1 z2 z3 z4 z5 z6 HF1 HF2 PD RD
              (try go_simp)
              go_meet
              exact ⟨tn, m, A1, c1, A1', c1', bs1, hmc, htm, HF3.out⟩

          have hk1b : (kd == 1) = false := by simpa using hk1
          by_cases hk2 : kd = 2
          · as_aux_lemma =>
              subst hk2
              obtain ⟨N, hN1, hN2⟩ : ∃ N, (tn + N) * 59 ≤ n ∧ n < (tn + N + 1) * 59 := ⟨n / 59 - tn, by omega, by omega⟩
              obtain ⟨T, hT⟩ : ∃ T, tn + N = T := ⟨_, rfl⟩
              have hTn : T * 59 ≤ n := by rw [← hT]; exact hN1
              have hNb : N ≤ 100000 := by omega
              have TK : Hid (∀ wx, Ss w7 wx p q a b c d f (sn : Int) sq A n cap (tn : Int) bs A' n cap' (tn : Int) bs → Calls Tryd.prog 14 #[.pointer (some ⟨p, 0, none⟩)] wx fun e w' => ∃ A2 c2 A3 c3 vs, e = .returned (.tuple #[.slice A2 N c2, .slice A3 N c3]) ∧ Tk wx w' p a b c d f sq A n cap tn bs N A2 c2 A3 c3 vs) := fun wx h =>
                take_any a b c d f sq tn p A n cap bs (by omega) (by omega) (by omega) (by omega) (by omega) htn N hN1 hN2 wx (HT.out _ (HLow.out _ h.keep)) h0p h.pkp
              have RK : Hid (∀ wx, Pk wx q a b c d (sn : Int) sq A' n cap' (tn : Int) bs → Calls Tryd.prog 23 #[.pointer (some ⟨q, 0, none⟩)] wx fun e w' => ∃ A2 c2 A3 c3 vs, e = .returned (.tuple #[.slice A2 N c2, .slice A3 N c3]) ∧ Rt wx w' q a b c d (sn : Int) f sq A' n cap' tn (T : Int) bs N A2 c2 N A3 c3 vs) := fun wx h => by
                have h := rtake_any a b c d sn sq tn q A' n cap' bs (by omega) HFM.out l1 (by omega) (by omega) htn N hN1 hN2 wx h
                rw [hT, HFV.out] at h
                exact h
              have HTT := Lib.hid hT
              clear hN1 hN2 hT hky hvl k1 k2 k3 k4
              have HF1 := Lib.hid (HF.out.later (below_alloc wr (.cells #[.int .i64 2, .int .i64 ki, .slice Ak nk ck, .slice Av nv cv, .int .i64 ex, .int .i64 off, .int .i64 mm] 56)))
              go_wp2_with (first
                | (go_at_call 14; refine (TK.out _ HF1.out).mono ?_; rintro e w2 ⟨A2, c2, A3, c3, vs, rfl, htk⟩; have HTk := Lib.hid htk; have HF2 := Lib.hid (HF1.out.takep htk); clear htk)
                | (go_at_call 23; refine (RK.out _ HF2.out.pkq).mono ?_; rintro e w3 ⟨A5, c5, A6, c6, us, rfl, hrt⟩; have HE := Lib.hid (HF1.out.takes HTk.out hrt); clear hrt)
                | (go_at_call 18; refine (refInts_same _ _ _ _ _ _ w3.heap.size w3.heap.size w3 HE.out.1 HE.out.2.1 (by omega)).mono ?_; rintro e w4 ⟨rfl, qq, rfl⟩)
                | (go_at_call 19; refine (refFrames_same _ _ _ _ _ _ _ _ w3.heap.size w3.heap.size _ (HE.out.2.2.1.below (below_drewN (Below.refl _ _) _)) (HE.out.2.2.2.1.below (below_drewN (Below.refl _ _) _)) (HE.out.2.2.2.2.1.below (below_drewN (Below.refl _ _) _)) (HE.out.2.2.2.2.2.1.below (below_drewN (Below.refl _ _) _)) (by omega)).mono ?_; rintro e w5 ⟨rfl, qq', rfl⟩))
              have hss3 := HE.out.2.2.2.2.2.2
              rw [HTT.out] at hss3
              have HF3 := Lib.hid (hss3.later (below_drewN (Below.refl _ _) (qq + qq')))
              clear z0 z1 z2 z3 z4 z5 z6 HF1 HF2 TK RK hss3 HTk HE
              (try go_simp)
              go_meet
              exact ⟨T, n, A, cap, A', cap', bs, hn, hTn, HF3.out⟩

          have hk2b : (kd == 2) = false := by simpa using hk2
          clear hky hvl k1 k2 k3 k4
          have BY : Hid (∀ wx, Pk wx p a b c d f sq A n cap (tn : Int) bs → Calls Tryd.prog 25 #[.pointer (some ⟨p, 0, none⟩), .int .i64 off, .int .i64 mm] wx (BytesSeg bs n off mm wx)) := fun wx h => pbytes_any a b c d f sq (tn : Int) p A n cap bs (by omega) off mm wx h
          have HXa := Lib.hid (Cells.new wr 56 #[.int .i64 kd, .int .i64 ki, .slice Ak nk ck, .slice Av nv cv, .int .i64 ex, .int .i64 off, .int .i64 mm])
          have HF1 := Lib.hid (HF.out.later (below_alloc wr (.cells #[.int .i64 kd, .int .i64 ki, .slice Ak nk ck, .slice Av nv cv, .int .i64 ex, .int .i64 off, .int .i64 mm] 56)))
          obtain ⟨oo1, oo2⟩ := oo
          obtain ⟨om1, om2⟩ := om
          go_upto_region 15 with fail
          clear z0 z1 z2 z3 z4 z5 z6
          have t5 := fun dd oo => cell_regrown (HXa.out 5 _ rfl) dd oo
          have t6 := fun dd oo => cell_regrown (HXa.out 6 _ rfl) dd oo
          have t7 := fun dd oo => cell_regrown (HF1.out.pkq.cells 6 _ rfl) dd oo
          have wn : IntKind.i64.wrap ((n : Int) - off) = (n : Int) - off ∨ off < 0 := by
            by_cases h : off < 0
            · exact .inr h
            · exact .inl (IntWalk.i64_in _ (by omega))

          by_cases h1 : off < 0
          · as_aux_lemma =>
              have HSEG : Hid (¬ segOk n off mm) := fun h => by have := h.1; omega
              have d1 : decide (0 ≤ off) = false := decide_eq_false (by omega)
              clear wn
              refine wp_region_quiet_below (by kernel_rfl) (by kernel_rfl) ?_
              repeat (first | go_big_quiet_step (fail) | quiet_step (fail))
              refine wpQuiet_nil ?_
              intro w2 hw'
              have HF2 := Lib.hid (HF1.out.later (below_of_regrown hw'))
              have HX2 := Lib.hid (HXa.out.below (below_of_regrown hw') (by simp))
              clear hw'
              clear t5 t6 t7
              have u5 := HX2.out 5 _ rfl
              have u6 := HX2.out 6 _ rfl
              go_wp2_with (first
                | (go_at_call 25; refine (BY.out _ HF2.out.pkp).mono ?_; rintro e w3 hby; obtain ⟨rfl, hbel⟩ := hby.no HSEG.out; have HF3 := Lib.hid (HF2.out.later hbel); clear hby hbel)
                | (go_at_call 24; refine (eq_any [] [] none none 0 0 0 0 0 0 w3 (Byt.nil _ _ _) (Byt.nil _ _ _) (by decide) (by decide)).mono ?_; rintro e w4 ⟨rfl, qq, rfl⟩; have HF4 := Lib.hid (HF3.out.later (below_drewN (Below.refl _ _) qq))))
              (try go_simp)
              go_meet
              exact ⟨tn, n, A, cap, A', cap', bs, hn, htn, HF4.out⟩

          have wn2 : IntKind.i64.wrap ((n : Int) - off) = (n : Int) - off := by rcases wn with h | h; exact h; omega
          clear wn
          have d1 : decide (0 ≤ off) = true := decide_eq_true (by omega)
          by_cases h2 : mm < 0
          · as_aux_lemma =>
              have HSEG : Hid (¬ segOk n off mm) := fun h => by have := h.2.1; omega
              have d2 : decide (0 ≤ mm) = false := decide_eq_false (by omega)
              refine wp_region_quiet_below (by kernel_rfl) (by kernel_rfl) ?_
              repeat (first | go_big_quiet_step (fail) | quiet_step (fail))
              refine wpQuiet_nil ?_
              intro w2 hw'
              have HF2 := Lib.hid (HF1.out.later (below_of_regrown hw'))
              have HX2 := Lib.hid (HXa.out.below (below_of_regrown hw') (by simp))
              clear hw'
              clear t5 t6 t7
              have u5 := HX2.out 5 _ rfl
              have u6 := HX2.out 6 _ rfl
              go_wp2_with (first
                | (go_at_call 25; refine (BY.out _ HF2.out.pkp).mono ?_; rintro e w3 hby; obtain ⟨rfl, hbel⟩ := hby.no HSEG.out; have HF3 := Lib.hid (HF2.out.later hbel); clear hby hbel)
                | (go_at_call 24; refine (eq_any [] [] none none 0 0 0 0 0 0 w3 (Byt.nil _ _ _) (Byt.nil _ _ _) (by decide) (by decide)).mono ?_; rintro e w4 ⟨rfl, qq, rfl⟩; have HF4 := Lib.hid (HF3.out.later (below_drewN (Below.refl _ _) qq))))
              (try go_simp)
              go_meet
              exact ⟨tn, n, A, cap, A', cap', bs, hn, htn, HF4.out⟩

          have d2 : decide (0 ≤ mm) = true := decide_eq_true (by omega)
          by_cases h3 : (n : Int) < off
          · as_aux_lemma =>
              have HSEG : Hid (¬ segOk n off mm) := fun h => by have := h.2.2.1; omega
              have d3 : decide (off ≤ (n : Int)) = false := decide_eq_false (by omega)
              refine wp_region_quiet_below (by kernel_rfl) (by kernel_rfl) ?_
              repeat (first | go_big_quiet_step (fail) | quiet_step (fail))
              refine wpQuiet_nil ?_
              intro w2 hw'
              have HF2 := Lib.hid (HF1.out.later (below_of_regrown hw'))
              have HX2 := Lib.hid (HXa.out.below (below_of_regrown hw') (by simp))
              clear hw'
              clear t5 t6 t7
              have u5 := HX2.out 5 _ rfl
              have u6 := HX2.out 6 _ rfl
              go_wp2_with (first
                | (go_at_call 25; refine (BY.out _ HF2.out.pkp).mono ?_; rintro e w3 hby; obtain ⟨rfl, hbel⟩ := hby.no HSEG.out; have HF3 := Lib.hid (HF2.out.later hbel); clear hby hbel)
                | (go_at_call 24; refine (eq_any [] [] none none 0 0 0 0 0 0 w3 (Byt.nil _ _ _) (Byt.nil _ _ _) (by decide) (by decide)).mono ?_; rintro e w4 ⟨rfl, qq, rfl⟩; have HF4 := Lib.hid (HF3.out.later (below_drewN (Below.refl _ _) qq))))
              (try go_simp)
              go_meet
              exact ⟨tn, n, A, cap, A', cap', bs, hn, htn, HF4.out⟩

          have d3 : decide (off ≤ (n : Int)) = true := decide_eq_true (by omega)
          by_cases h4 : (n : Int) - off < mm
          · as_aux_lemma =>
              have HSEG : Hid (¬ segOk n off mm) := fun h => by have := h.2.2.2; omega
              have d4 : decide (mm ≤ (n : Int) - off) = false := decide_eq_false (by omega)
              refine wp_region_quiet_below (by kernel_rfl) (by kernel_rfl) ?_
              repeat (first | go_big_quiet_step (fail) | quiet_step (fail))
              refine wpQuiet_nil ?_
              intro w2 hw'
              have HF2 := Lib.hid (HF1.out.later (below_of_regrown hw'))
              have HX2 := Lib.hid (HXa.out.below (below_of_regrown hw') (by simp))
              clear hw'
              clear t5 t6 t7
              have u5 := HX2.out 5 _ rfl
              have u6 := HX2.out 6 _ rfl
              go_wp2_with (first
                | (go_at_call 25; refine (BY.out _ HF2.out.pkp).mono ?_; rintro e w3 hby; obtain ⟨rfl, hbel⟩ := hby.no HSEG.out; have HF3 := Lib.hid (HF2.out.later hbel); clear hby hbel)
                | (go_at_call 24; refine (eq_any [] [] none none 0 0 0 0 0 0 w3 (Byt.nil _ _ _) (Byt.nil _ _ _) (by decide) (by decide)).mono ?_; rintro e w4 ⟨rfl, qq, rfl⟩; have HF4 := Lib.hid (HF3.out.later (below_drewN (Below.refl _ _) qq))))
              (try go_simp)
              go_meet
              exact ⟨tn, n, A, cap, A', cap', bs, hn, htn, HF4.out⟩

          have HSEG : Hid (segOk n off mm) := ⟨by omega, by omega, by omega, by omega⟩
          have d4 : decide (mm ≤ (n : Int) - off) = true := decide_eq_true (by omega)
          have hgf := HF1.out.pkq.own.gform

          rcases hgf with ⟨rfl, rfl, rfl⟩ | ⟨g, rfl⟩
          · as_aux_lemma =>
              obtain rfl : off = 0 := by omega
              obtain rfl : mm = 0 := by omega
              clear d1 d2 d3 d4 wn2 h1 h2 h3 h4
              refine wp_region_quiet_below (by kernel_rfl) (by kernel_rfl) ?_
              repeat (first | go_big_quiet_step (fail) | quiet_step (fail))
              refine wpQuiet_nil ?_
              intro w2 hw'
              have HF2 := Lib.hid (HF1.out.later (below_of_regrown hw'))
              have HX2 := Lib.hid (HXa.out.below (below_of_regrown hw') (by simp))
              clear hw' t5 t6 t7
              have t5 := fun dd oo => cell_regrown (HX2.out 5 _ rfl) dd oo
              have t6 := fun dd oo => cell_regrown (HX2.out 6 _ rfl) dd oo
              have t7 := fun dd oo => cell_regrown (HF2.out.pkq.cells 6 _ rfl) dd oo
              go_upto_region 16 with fail
              refine wp_region_quiet_below (by kernel_rfl) (by kernel_rfl) ?_
              repeat (first | go_big_quiet_step (fail) | quiet_step (fail))
              refine wpQuiet_nil ?_
              intro w3 hw'
              have HF3 := Lib.hid (HF2.out.later (below_of_regrown hw'))
              have HX3 := Lib.hid (HX2.out.below (below_of_regrown hw') HX2.out.lt)
              clear hw' t5 t6 t7
              have u5 := HX3.out 5 _ rfl
              have u6 := HX3.out 6 _ rfl
              go_wp2_with (first
                | (go_at_call 25; refine (BY.out _ HF3.out.pkp).mono ?_; rintro e w4 hby; obtain ⟨A1, c1, rfl, hq1, hq2, hq3, hbel⟩ := hby.yes HSEG.out; rw [show (0 : Int).toNat = 0 from rfl] at hq1 hq2 ⊢; rw [List.take_zero] at hq1; have HQ := Lib.hid hq1; have HF4 := Lib.hid (HF3.out.later hbel); clear hby hbel hq1 hq2 hq3)
                | (go_at_call 24; refine (eq_any [] [] _ _ _ _ _ _ _ _ w4 HQ.out (Byt.nil _ 0 _) (by omega) (by omega)).mono ?_; rintro e w5 ⟨rfl, qq, rfl⟩; rw [decide_eq_true rfl]; have HF5 := Lib.hid (HF4.out.later (below_drewN (Below.refl _ _) qq))))
              (try go_simp)
              go_meet
              exact ⟨tn, 0, A, cap, none, 0, bs, hn, htn, HF5.out⟩

          obtain ⟨lo, rfl⟩ : ∃ lo : Nat, off = lo := ⟨off.toNat, by omega⟩
          obtain ⟨k, rfl⟩ : ∃ k : Nat, mm = k := ⟨mm.toNat, by omega⟩
          have hlk : lo + k ≤ n := by omega
          have d3n : decide (lo ≤ n) = true := decide_eq_true (by omega)
          have hk0n : (0 : Int) ≤ (k : Int) := by omega
          obtain ⟨AX, capX, he, hncap, hcap⟩ := HF1.out.pkq.own.form
          injection he with e1 e2 e3
          subst e3
          clear e1 e2
          have WY : Hid (∀ wx, Own wx (q + 1) 5 (.slice (some ⟨g, 0, none⟩) n cap') n bs → Byt wx wx.heap.size (if cap' = lo then (some (⟨g, 0, none⟩ : Addr)) else (some (⟨g, 0, none⟩ : Addr)).map (·.add lo)) k ((bs.drop lo).take k)) := fun wx h => (h.byt.cut (k := lo) (cap := cap') (by omega) hncap).take (k := k) (by omega)
          have hw3 : IntKind.i64.wrap ((lo : Int) + (k : Int)) = (lo : Int) + (k : Int) := IntWalk.i64_in _ (by omega)
          have hc1 : (lo : Int) + (k : Int) ≤ (cap' : Int) := by omega
          have hc2 : (0 : Int) ≤ (lo : Int) + (k : Int) := by omega
          have hc3 : (lo : Int) ≤ max ((lo : Int) + (k : Int)) 0 := by omega
          have hc5 : ((lo : Int) + (k : Int)).toNat = lo + k := by omega
          have hc6 : lo + k - lo = k := by omega
          have hc7 : ((lo : Int) + (k : Int) - (lo : Int)).toNat = k := by omega
          clear h1 h2 h3 h4

          by_cases hcl : cap' = lo
          · as_aux_lemma =>
              subst hcl
              have WZ : Hid (∀ wx, Own wx (q + 1) 5 (.slice (some ⟨g, 0, none⟩) n cap') n bs → Byt wx wx.heap.size (some ⟨g, 0, none⟩) k ((bs.drop cap').take k)) := fun wx h => by
                have h := WY.out wx h
                rw [if_pos rfl] at h
                exact h
              refine wp_region_quiet_below (by kernel_rfl) (by kernel_rfl) ?_
              repeat (first | go_big_quiet_step (fail) | quiet_step (fail))
              refine wpQuiet_nil ?_
              intro w2 hw'
              have HF2 := Lib.hid (HF1.out.later (below_of_regrown hw'))
              have HX2 := Lib.hid (HXa.out.below (below_of_regrown hw') (by simp))
              clear hw'
              clear t5 t6 t7
              have t5 := fun dd oo => cell_regrown (HX2.out 5 _ rfl) dd oo
              have t6 := fun dd oo => cell_regrown (HX2.out 6 _ rfl) dd oo
              have t7 := fun dd oo => cell_regrown (HF2.out.pkq.cells 6 _ rfl) dd oo
              go_upto_region 16 with fail
              refine wp_region_quiet_below (by kernel_rfl) (by kernel_rfl) ?_
              repeat (first | go_big_quiet_step (fail) | quiet_step (fail))
              refine wpQuiet_nil ?_
              intro w3 hw'
              have HF3 := Lib.hid (HF2.out.later (below_of_regrown hw'))
              have HX3 := Lib.hid (HX2.out.below (below_of_regrown hw') HX2.out.lt)
              clear hw'
              clear t5 t6 t7
              have u5 := HX3.out 5 _ rfl
              have u6 := HX3.out 6 _ rfl
              go_wp2_with (first
                | (go_at_call 25; refine (BY.out _ HF3.out.pkp).mono ?_; rintro e w4 hby; obtain ⟨A1, c1, rfl, hq1, hq2, hq3, hbel⟩ := hby.yes HSEG.out; simp only [Int.toNat_natCast] at hq1 hq2 ⊢; have HQ := Lib.hid hq1; have HF4 := Lib.hid (HF3.out.later hbel); clear hby hbel hq1 hq2 hq3)
                | (go_at_call 24; refine (eq_any _ _ _ _ _ _ _ _ _ _ w4 HQ.out (WZ.out _ HF4.out.pkq.own) (by omega) (by omega)).mono ?_; rintro e w5 ⟨rfl, qq, rfl⟩; rw [decide_eq_true rfl]; have HF5 := Lib.hid (HF4.out.later (below_drewN (Below.refl _ _) qq))))
              clear u5 u6
              (try go_simp)
              go_meet
              exact ⟨tn, n, A, cap, some ⟨g, 0, none⟩, cap', bs, hn, htn, HF5.out⟩
          have WZ : Hid (∀ wx, Own wx (q + 1) 5 (.slice (some ⟨g, 0, none⟩) n cap') n bs → Byt wx wx.heap.size (some ⟨g, lo, none⟩) k ((bs.drop lo).take k)) := fun wx h => by
            have h := WY.out wx h
            rw [if_neg hcl] at h
            have e : (Option.map (fun x : Addr => x.add lo) (some (⟨g, 0, none⟩ : Addr))) = some ⟨g, lo, none⟩ := by
              simp only [Option.map_some, Addr.add]
              by_cases h0 : lo = 0
              · rw [if_pos h0, h0]
              · rw [if_neg h0, Nat.zero_add]
            rw [e] at h
            exact h
          refine wp_region_quiet_below (by kernel_rfl) (by kernel_rfl) ?_
          repeat (first | go_big_quiet_step (fail) | quiet_step (fail))
          refine wpQuiet_nil ?_
          intro w2 hw'
          have HF2 := Lib.hid (HF1.out.later (below_of_regrown hw'))
          have HX2 := Lib.hid (HXa.out.below (below_of_regrown hw') (by simp))
          clear hw'
          clear t5 t6 t7
          have t5 := fun dd oo => cell_regrown (HX2.out 5 _ rfl) dd oo
          have t6 := fun dd oo => cell_regrown (HX2.out 6 _ rfl) dd oo
          have t7 := fun dd oo => cell_regrown (HF2.out.pkq.cells 6 _ rfl) dd oo
          go_upto_region 16 with fail
          refine wp_region_quiet_below (by kernel_rfl) (by kernel_rfl) ?_
          repeat (first | go_big_quiet_step (fail) | quiet_step (fail))
          refine wpQuiet_nil ?_
          intro w3 hw'
          have HF3 := Lib.hid (HF2.out.later (below_of_regrown hw'))
          have HX3 := Lib.hid (HX2.out.below (below_of_regrown hw') HX2.out.lt)
          clear hw'
          clear t5 t6 t7
          have u5 := HX3.out 5 _ rfl
          have u6 := HX3.out 6 _ rfl
          go_wp2_with (first
            | (go_at_call 25; refine (BY.out _ HF3.out.pkp).mono ?_; rintro e w4 hby; obtain ⟨A1, c1, rfl, hq1, hq2, hq3, hbel⟩ := hby.yes HSEG.out; simp only [Int.toNat_natCast] at hq1 hq2 ⊢; have HQ := Lib.hid hq1; have HF4 := Lib.hid (HF3.out.later hbel); clear hby hbel hq1 hq2 hq3)
            | (go_at_call 24; refine (eq_any _ _ _ _ _ _ _ _ _ _ w4 HQ.out (WZ.out _ HF4.out.pkq.own) (by omega) (by omega)).mono ?_; rintro e w5 ⟨rfl, qq, rfl⟩; rw [decide_eq_true rfl]; have HF5 := Lib.hid (HF4.out.later (below_drewN (Below.refl _ _) qq))))
          clear u5 u6
          (try go_simp)
          go_meet
          exact ⟨tn, n, A, cap, some ⟨g, 0, none⟩, cap', bs, hn, htn, HF5.out⟩

end Go.Proofs.YtecmopfaeopmdaaDoor
