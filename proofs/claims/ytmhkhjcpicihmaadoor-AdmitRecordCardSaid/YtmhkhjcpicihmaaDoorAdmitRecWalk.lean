/- The walk of the law AdmitRecord. -/
import Derived.Test.YtmhkhjcpicihmaaDoorAdmitLawBox
import Derived.Test.YtmhkhjcpicihmaaDoorAdmitAwake
import Derived.Test.YtmhkhjcpicihmaaDoorPacker
namespace Go.Proofs.YtmhkhjcpicihmaaDoor
open Go.RowKit

/-- What Put returns, by the cases of the law. -/
theorem put_bad {p : Nat} {a b c d f s tk cp : Int} {A : Option Addr} {n cap : Nat} {bs : List UInt8} {r : List UInt8 × Int} {w w' : World} {e : Ending} (hz : ¬ r.2 = 0) (h : PPut p a b c d f s tk cp A n cap bs r w e w') : e = .returned (.tuple #[.int .i64 0, .int .i64 0, .int .i64 r.2]) ∧ Below w.heap.size w w' := by
  rcases h with ⟨_, h1, h2⟩ | ⟨h1, _⟩ | ⟨h1, _⟩
  · exact ⟨h1, h2⟩
  · exact absurd h1 hz
  · exact absurd h1 hz
theorem put_full {p : Nat} {a b c d f s tk cp : Int} {A : Option Addr} {n cap : Nat} {bs : List UInt8} {r : List UInt8 × Int} {w w' : World} {e : Ending} (hz : r.2 = 0) (hf : cp - n < r.1.length) (h : PPut p a b c d f s tk cp A n cap bs r w e w') : e = .returned (.tuple #[.int .i64 0, .int .i64 0, .int .i64 8]) ∧ Below w.heap.size w w' := by
  rcases h with ⟨h1, _⟩ | ⟨_, _, h1, h2⟩ | ⟨_, h1, _⟩
  · exact absurd hz h1
  · exact ⟨h1, h2⟩
  · exact absurd hf h1
theorem put_good {p : Nat} {a b c d f s tk cp : Int} {A : Option Addr} {n cap : Nat} {bs : List UInt8} {r : List UInt8 × Int} {w w' : World} {e : Ending} (hz : r.2 = 0) (hf : ¬ cp - n < r.1.length) (h : PPut p a b c d f s tk cp A n cap bs r w e w') : e = .returned (.tuple #[.int .i64 (n : Int), .int .i64 (r.1.length : Int), .int .i64 0]) ∧ ∃ A' cap', Pk w' p a b c d f s A' (n + r.1.length) cap' tk (bs ++ r.1) ∧ Far w w' p (Value.slice A n cap).ownBlock := by
  rcases h with ⟨h1, _⟩ | ⟨_, h1, _⟩ | ⟨_, _, h1, h2⟩
  · exact absurd hz h1
  · exact absurd h1 hf
  · exact ⟨h1, h2⟩

set_option maxRecDepth 100000 in
set_option maxHeartbeats 8000000 in
theorem admitRecord_any (a b c d now ttl : Int) (Ak Av : Option Addr) (nk ck nv cv : Nat) (bk bv : List UInt8) (w : World) (ht : TabAt w) (h0 : 0 < w.heap.size) (ha : I64 a) (hb : I64 b) (hc : I64 c) (hd : I64 d) (hnow : I64 now) (httl : I64 ttl) (hbk : Byt w w.heap.size Ak nk bk) (hbv : Byt w w.heap.size Av nv bv) (hk : nk ≤ ck) (hv : nv ≤ cv) (hck : ck ≤ 9223372036854775807) (hcv : cv ≤ 9223372036854775807) :
    Calls Tryd.prog 3 #[.agg #[.int .i64 a, .int .i64 b, .int .i64 c, .int .i64 d, .int .i64 now, .int .i64 ttl, .slice Ak nk ck, .slice Av nv cv]] w fun e w' => e = .returned (.bool true) ∧ Below w.heap.size w w' := by
  have HK := Lib.hid hbk
  have HV := Lib.hid hbv
  have HT := Lib.hid ht
  have HSZ := Lib.hid h0
  have HI := Lib.hid (show I64 a ∧ I64 b ∧ I64 c ∧ I64 d ∧ I64 now ∧ I64 ttl from ⟨ha, hb, hc, hd, hnow, httl⟩)
  have RF := Lib.hid (refForm_any a b c d ha hb hc hd)
  have HBB : Hid (Below w.heap.size w (w.alloc (.cells #[.int .i64 a, .int .i64 b, .int .i64 c, .int .i64 d, .int .i64 now, .int .i64 ttl, .slice Ak nk ck, .slice Av nv cv] 26))) := (Below.refl _ _).alloc (Nat.le_refl _) _
  clear ha hb hc hd hbk hbv ht h0
  go_enter Tryd.func3, Tryd.ntmps3
  go_upto_region 1 with fail
  go_cut [] (fun wx => ∃ mk mv : Nat, BoxQ wx w.heap.size a b c d now ttl Ak mk ck Av mv cv ∧ Below w.heap.size w wx ∧ mk ≤ nk ∧ mk ≤ 260 ∧ mv ≤ nv ∧ mv ≤ 2000)
  case first =>
    by_cases h1 : nk ≤ 260
    all_goals by_cases h2 : nv ≤ 2000
    · have h1' : (nk : Int) ≤ 260 := by omega
      have h2' : (nv : Int) ≤ 2000 := by omega
      have h3' : (nk : Int) ≤ (ck : Int) := by omega
      have h4' : (nv : Int) ≤ (cv : Int) := by omega
      have HB0 : Hid (Below w.heap.size w (w.alloc (.cells #[.int .i64 a, .int .i64 b, .int .i64 c, .int .i64 d, .int .i64 now, .int .i64 ttl, .slice Ak nk ck, .slice Av nv cv] 26)).drew) := Below.drew ((Below.refl _ _).alloc (Nat.le_refl _) _)
      have HX0 : Hid (BoxQ (w.alloc (.cells #[.int .i64 a, .int .i64 b, .int .i64 c, .int .i64 d, .int .i64 now, .int .i64 ttl, .slice Ak nk ck, .slice Av nv cv] 26)).drew w.heap.size a b c d now ttl Ak nk ck Av nv cv) := BoxQ.new w 26 a b c d now ttl Ak Av nk ck nv cv
      go_region
      all_goals
        go_wp2_with fail
        (try go_simp)
        go_meet
        exact ⟨nk, nv, HX0.out, HB0.out, by omega, by omega, by omega, by omega⟩
    · have h1' : (nk : Int) ≤ 260 := by omega
      have h2' : (2000 : Int) < (nv : Int) := by omega
      have h3' : (nk : Int) ≤ (ck : Int) := by omega
      have h4' : (2000 : Int) ≤ (cv : Int) := by omega
      have HB0 : Hid (Below w.heap.size w (w.alloc (.cells #[.int .i64 a, .int .i64 b, .int .i64 c, .int .i64 d, .int .i64 now, .int .i64 ttl, .slice Ak nk ck, .slice Av 2000 cv] 26)).drew) := Below.drew ((Below.refl _ _).alloc (Nat.le_refl _) _)
      have HX0 : Hid (BoxQ (w.alloc (.cells #[.int .i64 a, .int .i64 b, .int .i64 c, .int .i64 d, .int .i64 now, .int .i64 ttl, .slice Ak nk ck, .slice Av 2000 cv] 26)).drew w.heap.size a b c d now ttl Ak nk ck Av 2000 cv) := BoxQ.new w 26 a b c d now ttl Ak Av nk ck 2000 cv
      go_region
      all_goals
        go_wp2_with fail
        (try go_simp)
        go_meet
        exact ⟨nk, 2000, HX0.out, HB0.out, by omega, by omega, by omega, by omega⟩
    · have h1' : (260 : Int) < (nk : Int) := by omega
      have h2' : (nv : Int) ≤ 2000 := by omega
      have h3' : (260 : Int) ≤ (ck : Int) := by omega
      have h4' : (nv : Int) ≤ (cv : Int) := by omega
      have HB0 : Hid (Below w.heap.size w (w.alloc (.cells #[.int .i64 a, .int .i64 b, .int .i64 c, .int .i64 d, .int .i64 now, .int .i64 ttl, .slice Ak 260 ck, .slice Av nv cv] 26)).drew) := Below.drew ((Below.refl _ _).alloc (Nat.le_refl _) _)
      have HX0 : Hid (BoxQ (w.alloc (.cells #[.int .i64 a, .int .i64 b, .int .i64 c, .int .i64 d, .int .i64 now, .int .i64 ttl, .slice Ak 260 ck, .slice Av nv cv] 26)).drew w.heap.size a b c d now ttl Ak 260 ck Av nv cv) := BoxQ.new w 26 a b c d now ttl Ak Av 260 ck nv cv
      go_region
      all_goals
        go_wp2_with fail
        (try go_simp)
        go_meet
        exact ⟨260, nv, HX0.out, HB0.out, by omega, by omega, by omega, by omega⟩
    · have h1' : (260 : Int) < (nk : Int) := by omega
      have h2' : (2000 : Int) < (nv : Int) := by omega
      have h3' : (260 : Int) ≤ (ck : Int) := by omega
      have h4' : (2000 : Int) ≤ (cv : Int) := by omega
      have HB0 : Hid (Below w.heap.size w (w.alloc (.cells #[.int .i64 a, .int .i64 b, .int .i64 c, .int .i64 d, .int .i64 now, .int .i64 ttl, .slice Ak 260 ck, .slice Av 2000 cv] 26)).drew) := Below.drew ((Below.refl _ _).alloc (Nat.le_refl _) _)
      have HX0 : Hid (BoxQ (w.alloc (.cells #[.int .i64 a, .int .i64 b, .int .i64 c, .int .i64 d, .int .i64 now, .int .i64 ttl, .slice Ak 260 ck, .slice Av 2000 cv] 26)).drew w.heap.size a b c d now ttl Ak 260 ck Av 2000 cv) := BoxQ.new w 26 a b c d now ttl Ak Av 260 ck 2000 cv
      go_region
      all_goals
        go_wp2_with fail
        (try go_simp)
        go_meet
        exact ⟨260, 2000, HX0.out, HB0.out, by omega, by omega, by omega, by omega⟩
  case rest =>
    obtain ⟨mk, mv, hx, hbel, k1, k2, v1, v2⟩ := hcut
    have HX1 := Lib.hid hx
    have HB1 := Lib.hid hbel
    have HMK : Hid (Byt w w.heap.size Ak mk (bk.take mk)) := HK.out.take k1
    have HMV : Hid (Byt w w.heap.size Av mv (bv.take mv)) := HV.out.take v1
    clear hx hbel k1 v1 hk hv hck hcv
    obtain ⟨wA, hwA⟩ : ∃ x, x = wc := ⟨_, rfl⟩
    subst hwA
    obtain ⟨ha, hb, hc, hd, hnow, httl⟩ := HI.out
    unfold I64 at ha hb hc hd hnow httl
    have hw1 : w.heap.size < wA.heap.size := by
      have h0 := HX1.out.1
      rcases Nat.lt_or_ge w.heap.size wA.heap.size with h | h
      · exact h
      · simp [World.cell?, Array.getElem?_eq_none h] at h0
    obtain ⟨l0, l1, l2, l3, l4, l5, l6, l7⟩ := HX1.out
    cases hf : form a b c d
    · rw [hf] at RF
      go_wp2_with (first | (go_at_call 4; refine (RF.out _).mono ?_; rintro e w2 ⟨rfl, hbel⟩; have HB2 : Hid (Below w.heap.size w w2) := HB1.out.trans (hbel.mono HB1.out.size); have HX2 : Hid (BoxQ w2 w.heap.size a b c d now ttl Ak mk ck Av mv cv) := HX1.out.below hbel hw1; have hw2 : w.heap.size < w2.heap.size := Nat.lt_of_lt_of_le hw1 hbel.size; obtain ⟨n0, n1, n2, n3, n4, n5, n6, n7⟩ := HX2.out; clear hbel) | (go_at_call 5; refine (admitAwake_any _).mono ?_; rintro e w9 ⟨rfl, hbel⟩; have HB9 : Hid (Below w.heap.size w w9) := HB2.out.trans (hbel.mono HB2.out.size); clear hbel))
      go_ret
      exact ⟨rfl, HB9.out⟩
    have RF2 := RF.out
    rw [hf] at RF2
    clear RF
    have RF := Lib.hid RF2
    clear RF2
    by_cases q7 : now < 0
    · clear hf
      go_wp2_with (first | (go_at_call 4; refine (RF.out _).mono ?_; rintro e w2 ⟨rfl, hbel⟩; have HB2 : Hid (Below w.heap.size w w2) := HB1.out.trans (hbel.mono HB1.out.size); have HX2 : Hid (BoxQ w2 w.heap.size a b c d now ttl Ak mk ck Av mv cv) := HX1.out.below hbel hw1; have hw2 : w.heap.size < w2.heap.size := Nat.lt_of_lt_of_le hw1 hbel.size; obtain ⟨n0, n1, n2, n3, n4, n5, n6, n7⟩ := HX2.out; clear hbel) | (go_at_call 5; refine (admitAwake_any _).mono ?_; rintro e w9 ⟨rfl, hbel⟩; have HB9 : Hid (Below w.heap.size w w9) := HB2.out.trans (hbel.mono HB2.out.size); clear hbel))
      go_ret
      exact ⟨rfl, HB9.out⟩
    by_cases q18 : 549755813888 < now
    · clear hf
      go_wp2_with (first | (go_at_call 4; refine (RF.out _).mono ?_; rintro e w2 ⟨rfl, hbel⟩; have HB2 : Hid (Below w.heap.size w w2) := HB1.out.trans (hbel.mono HB1.out.size); have HX2 : Hid (BoxQ w2 w.heap.size a b c d now ttl Ak mk ck Av mv cv) := HX1.out.below hbel hw1; have hw2 : w.heap.size < w2.heap.size := Nat.lt_of_lt_of_le hw1 hbel.size; obtain ⟨n0, n1, n2, n3, n4, n5, n6, n7⟩ := HX2.out; clear hbel) | (go_at_call 5; refine (admitAwake_any _).mono ?_; rintro e w9 ⟨rfl, hbel⟩; have HB9 : Hid (Below w.heap.size w w9) := HB2.out.trans (hbel.mono HB2.out.size); clear hbel))
      go_ret
      exact ⟨rfl, HB9.out⟩
    by_cases q7 : ttl < 0
    · clear hf
      go_wp2_with (first | (go_at_call 4; refine (RF.out _).mono ?_; rintro e w2 ⟨rfl, hbel⟩; have HB2 : Hid (Below w.heap.size w w2) := HB1.out.trans (hbel.mono HB1.out.size); have HX2 : Hid (BoxQ w2 w.heap.size a b c d now ttl Ak mk ck Av mv cv) := HX1.out.below hbel hw1; have hw2 : w.heap.size < w2.heap.size := Nat.lt_of_lt_of_le hw1 hbel.size; obtain ⟨n0, n1, n2, n3, n4, n5, n6, n7⟩ := HX2.out; clear hbel) | (go_at_call 5; refine (admitAwake_any _).mono ?_; rintro e w9 ⟨rfl, hbel⟩; have HB9 : Hid (Below w.heap.size w w9) := HB2.out.trans (hbel.mono HB2.out.size); clear hbel))
      go_ret
      exact ⟨rfl, HB9.out⟩
    by_cases q19 : 1099511627775 < ttl
    · clear hf
      go_wp2_with (first | (go_at_call 4; refine (RF.out _).mono ?_; rintro e w2 ⟨rfl, hbel⟩; have HB2 : Hid (Below w.heap.size w w2) := HB1.out.trans (hbel.mono HB1.out.size); have HX2 : Hid (BoxQ w2 w.heap.size a b c d now ttl Ak mk ck Av mv cv) := HX1.out.below hbel hw1; have hw2 : w.heap.size < w2.heap.size := Nat.lt_of_lt_of_le hw1 hbel.size; obtain ⟨n0, n1, n2, n3, n4, n5, n6, n7⟩ := HX2.out; clear hbel) | (go_at_call 5; refine (admitAwake_any _).mono ?_; rintro e w9 ⟨rfl, hbel⟩; have HB9 : Hid (Below w.heap.size w w9) := HB2.out.trans (hbel.mono HB2.out.size); clear hbel))
      go_ret
      exact ⟨rfl, HB9.out⟩
    have HF := Lib.hid hf
    have HCR := Lib.hid (check_rec a b c d now ttl mk mv hf (by omega) (by omega) (by omega) v2)
    have HCAP := Lib.hid (capS_in hf).1
    have HD := Lib.hid (form_true hf)
    have hd4 : (0 : Int) < d := by obtain ⟨_, _, _, _, _, _, h, _⟩ := HD.out; omega
    clear hf HD
    have NW := Lib.hid (fun w => pnew_any a b c d 0 1 HI.out.1 HI.out.2.1 HI.out.2.2.1 HI.out.2.2.2.1 HF.out (by simpa using hd4) (by decide) (by decide) w)
    have HKL := Lib.hid HMK.out.len
    have HVL := Lib.hid HMV.out.len
    have PT := Lib.hid (fun (w' : World) (p : Nat) (hB : Below w.heap.size w w') (hP : Pk w' p a b c d (74 + (0 : Nat) * c) 1 none 0 0 0 []) (r : List UInt8 × Int) (hr : rencS b 1 (0 : Nat) 1 (wantS now ttl) (bk.take mk) (bv.take mv) = r) => pput_any a b c d (74 + (0 : Nat) * c) 1 0 ((c - 1) * 59) p none 0 0 [] 1 (wantS now ttl) (bk.take mk) (bv.take mv) Ak Av mk ck mv cv w.heap.size w' (HT.out.below hB HSZ.out) (Nat.lt_of_lt_of_le HSZ.out hB.size) hP HI.out.1 HI.out.2.1 HI.out.2.2.1 HI.out.2.2.2.1 HCAP.out (by decide) (HMK.out.below hB) (HMV.out.below hB) hB.size (by omega) (by omega) (by decide) r hr)
    have CK := Lib.hid (fun (r : Int × Int) (hr : checkS (form a b c d) (mostS b) (capS a b c d) now ttl mk mv = r) (w : World) => check_any a b c d now ttl Ak Av mk ck mv cv HI.out.1 HI.out.2.1 HI.out.2.2.1 HI.out.2.2.2.1 HI.out.2.2.2.2.1 HI.out.2.2.2.2.2 (by omega) (by omega) r hr w)
    have HRE := Lib.hid (show ∀ rc, rcheck b 1 (wantS now ttl) mk mv = rc → (¬ rc = 0 → rencS b 1 (0 : Nat) 1 (wantS now ttl) (bk.take mk) (bv.take mv) = ([], rc)) ∧ (rc = 0 → (rencS b 1 (0 : Nat) 1 (wantS now ttl) (bk.take mk) (bv.take mv)).2 = 0 ∧ (rencS b 1 (0 : Nat) 1 (wantS now ttl) (bk.take mk) (bv.take mv)).1.length = 16 + mk + mv) from fun rc hrc => by
      have hk := HKL.out
      have hv := HVL.out
      unfold rencS
      rw [hk, hv, hrc]
      refine ⟨fun h => by rw [if_pos h], fun h => ?_⟩
      rw [if_neg (fun h' => h' h), if_neg (by decide)]
      exact ⟨rfl, by rw [rbytes_len, hk, hv]⟩)
    obtain ⟨rc, hrc⟩ : ∃ rc, rcheck b 1 (wantS now ttl) mk mv = rc := ⟨_, rfl⟩
    have HRC := Lib.hid hrc
    have hcr := HCR.out
    rw [hrc] at hcr
    have hre := HRE.out rc hrc
    clear HRE hrc HCR
    obtain ⟨want, hwant⟩ : ∃ want, wantS now ttl = want := ⟨_, rfl⟩
    rw [hwant] at hcr hre PT
    have hwt : (¬ 0 < ttl ∧ want = 0) ∨ (0 < ttl ∧ want = now + ttl) := by
      rw [← hwant]; unfold wantS
      by_cases h : 0 < ttl
      · exact .inr ⟨h, by rw [if_pos h]⟩
      · exact .inl ⟨h, by rw [if_neg h]⟩
    clear hwant HRC
    obtain ⟨cpv, hcpv⟩ : ∃ q, (c - 1) * 59 = q := ⟨_, rfl⟩
    rw [hcpv] at PT hcr
    clear hcpv HCAP
    obtain ⟨fs, hfs⟩ : ∃ q, 74 + ((0 : Nat) : Int) * c = q := ⟨_, rfl⟩
    rw [hfs] at PT NW
    clear hfs
    obtain ⟨rr, hrr⟩ : ∃ q, rencS b 1 (0 : Nat) 1 want (bk.take mk) (bv.take mv) = q := ⟨_, rfl⟩
    rw [hrr] at hre
    have PU := Lib.hid (fun (w' : World) (p : Nat) (hB : Below w.heap.size w w') (hP : Pk w' p a b c d fs 1 none 0 0 0 []) => PT.out w' p hB hP rr hrr)
    clear PT hrr
    have hpp : (∃ y, ¬ y = 0 ∧ checkS (form a b c d) (mostS b) (capS a b c d) now ttl mk mv = (0, y) ∧ (∀ p w' e w'', PPut p a b c d fs 1 0 cpv none 0 0 [] rr w' e w'' → e = .returned (.tuple #[.int .i64 0, .int .i64 0, .int .i64 y]) ∧ Below w'.heap.size w' w'')) ∨
        (checkS (form a b c d) (mostS b) (capS a b c d) now ttl mk mv = (want, 0) ∧ (∀ p w' e w'', PPut p a b c d fs 1 0 cpv none 0 0 [] rr w' e w'' → ∃ L : Nat, e = .returned (.tuple #[.int .i64 0, .int .i64 (L : Int), .int .i64 0]) ∧ Far w' w'' p none)) := by
      rcases hcr with ⟨z, h⟩ | ⟨z, hfit, h⟩ | ⟨z, hfit, h⟩
      · refine .inl ⟨rc, z, h, fun p w' e w'' hp => ?_⟩
        have e1 := hre.1 z
        subst e1
        exact put_bad z hp
      · refine .inl ⟨8, by decide, h, fun p w' e w'' hp => ?_⟩
        obtain ⟨e1, e2⟩ := hre.2 z
        exact put_full e1 (by rw [e2]; omega) hp
      · refine .inr ⟨h, fun p w' e w'' hp => ?_⟩
        obtain ⟨e1, e2⟩ := hre.2 z
        obtain ⟨q1, A', cap', _, q2⟩ := put_good e1 (by rw [e2]; omega) hp
        exact ⟨rr.1.length, q1, q2⟩
    clear hcr hre
    have CK2 := CK.out
    clear CK
    rcases hpp with ⟨y, hy, hck, hpp⟩ | ⟨hck, hpp⟩
    · have CK := Lib.hid (CK2 _ hck)
      have HPP := Lib.hid hpp
      clear CK2 hck hpp
      rcases hwt with ⟨ht, rfl⟩ | ⟨ht, rfl⟩
      · go_wp2_with (first | (go_at_call 4; refine (RF.out _).mono ?_; rintro e w2 ⟨rfl, hbel⟩; have HB2 : Hid (Below w.heap.size w w2) := HB1.out.trans (hbel.mono HB1.out.size); have HX2 : Hid (BoxQ w2 w.heap.size a b c d now ttl Ak mk ck Av mv cv) := HX1.out.below hbel hw1; have hw2 : w.heap.size < w2.heap.size := Nat.lt_of_lt_of_le hw1 hbel.size; obtain ⟨n0, n1, n2, n3, n4, n5, n6, n7⟩ := HX2.out; clear hbel) | (go_at_call 6; refine (CK.out _).mono ?_; rintro e w3 ⟨rfl, hbel⟩; have HB3 : Hid (Below w.heap.size w w3) := HB2.out.trans (hbel.mono HB2.out.size); have HX3 : Hid (BoxQ w3 w.heap.size a b c d now ttl Ak mk ck Av mv cv) := HX2.out.below hbel hw2; have hw3 : w.heap.size < w3.heap.size := Nat.lt_of_lt_of_le hw2 hbel.size; obtain ⟨o0, o1, o2, o3, o4, o5, o6, o7⟩ := HX3.out; clear hbel n0 n1 n2 n3 n4 n5 n6 n7) | (go_at_call 7; refine (NW.out _).mono ?_; rintro e w4 ⟨p, rfl, hp, hpk, hbel⟩; have HB4 : Hid (Below w.heap.size w w4) := HB3.out.trans (hbel.mono HB3.out.size); have HX4 : Hid (BoxQ w4 w.heap.size a b c d now ttl Ak mk ck Av mv cv) := HX3.out.below hbel hw3; have HPK := Lib.hid hpk; have HP := Lib.hid (Nat.le_trans HB3.out.size hp); obtain ⟨p0, p1, p2, p3, p4, p5, p6, p7⟩ := HX4.out; clear hbel hpk hp o0 o1 o2 o3 o4 o5 o6 o7) | (go_at_call 8; refine (PU.out _ p HB4.out HPK.out).mono ?_; intro e w5 hpp; obtain ⟨rfl, hbel⟩ := HPP.out _ _ _ _ hpp; have HB5 : Hid (Below w.heap.size w w5) := HB4.out.trans (hbel.mono HB4.out.size); clear hbel hpp) | (go_at_call 5; refine (admitAwake_any _).mono ?_; rintro e w9 ⟨rfl, hbel⟩; have HB9 : Hid (Below w.heap.size w w9) := HB5.out.trans (hbel.mono HB5.out.size); clear hbel))
        go_ret
        exact ⟨rfl, HB9.out⟩
      · go_wp2_with (first | (go_at_call 4; refine (RF.out _).mono ?_; rintro e w2 ⟨rfl, hbel⟩; have HB2 : Hid (Below w.heap.size w w2) := HB1.out.trans (hbel.mono HB1.out.size); have HX2 : Hid (BoxQ w2 w.heap.size a b c d now ttl Ak mk ck Av mv cv) := HX1.out.below hbel hw1; have hw2 : w.heap.size < w2.heap.size := Nat.lt_of_lt_of_le hw1 hbel.size; obtain ⟨n0, n1, n2, n3, n4, n5, n6, n7⟩ := HX2.out; clear hbel) | (go_at_call 6; refine (CK.out _).mono ?_; rintro e w3 ⟨rfl, hbel⟩; have HB3 : Hid (Below w.heap.size w w3) := HB2.out.trans (hbel.mono HB2.out.size); have HX3 : Hid (BoxQ w3 w.heap.size a b c d now ttl Ak mk ck Av mv cv) := HX2.out.below hbel hw2; have hw3 : w.heap.size < w3.heap.size := Nat.lt_of_lt_of_le hw2 hbel.size; obtain ⟨o0, o1, o2, o3, o4, o5, o6, o7⟩ := HX3.out; clear hbel n0 n1 n2 n3 n4 n5 n6 n7) | (go_at_call 7; refine (NW.out _).mono ?_; rintro e w4 ⟨p, rfl, hp, hpk, hbel⟩; have HB4 : Hid (Below w.heap.size w w4) := HB3.out.trans (hbel.mono HB3.out.size); have HX4 : Hid (BoxQ w4 w.heap.size a b c d now ttl Ak mk ck Av mv cv) := HX3.out.below hbel hw3; have HPK := Lib.hid hpk; have HP := Lib.hid (Nat.le_trans HB3.out.size hp); obtain ⟨p0, p1, p2, p3, p4, p5, p6, p7⟩ := HX4.out; clear hbel hpk hp o0 o1 o2 o3 o4 o5 o6 o7) | (go_at_call 8; refine (PU.out _ p HB4.out HPK.out).mono ?_; intro e w5 hpp; obtain ⟨rfl, hbel⟩ := HPP.out _ _ _ _ hpp; have HB5 : Hid (Below w.heap.size w w5) := HB4.out.trans (hbel.mono HB4.out.size); clear hbel hpp) | (go_at_call 5; refine (admitAwake_any _).mono ?_; rintro e w9 ⟨rfl, hbel⟩; have HB9 : Hid (Below w.heap.size w w9) := HB5.out.trans (hbel.mono HB5.out.size); clear hbel))
        go_ret
        exact ⟨rfl, HB9.out⟩
    · have CK := Lib.hid (CK2 _ hck)
      have HPP := Lib.hid hpp
      clear CK2 hck hpp
      rcases hwt with ⟨ht, rfl⟩ | ⟨ht, rfl⟩
      · go_wp2_with (first | (go_at_call 4; refine (RF.out _).mono ?_; rintro e w2 ⟨rfl, hbel⟩; have HB2 : Hid (Below w.heap.size w w2) := HB1.out.trans (hbel.mono HB1.out.size); have HX2 : Hid (BoxQ w2 w.heap.size a b c d now ttl Ak mk ck Av mv cv) := HX1.out.below hbel hw1; have hw2 : w.heap.size < w2.heap.size := Nat.lt_of_lt_of_le hw1 hbel.size; obtain ⟨n0, n1, n2, n3, n4, n5, n6, n7⟩ := HX2.out; clear hbel) | (go_at_call 6; refine (CK.out _).mono ?_; rintro e w3 ⟨rfl, hbel⟩; have HB3 : Hid (Below w.heap.size w w3) := HB2.out.trans (hbel.mono HB2.out.size); have HX3 : Hid (BoxQ w3 w.heap.size a b c d now ttl Ak mk ck Av mv cv) := HX2.out.below hbel hw2; have hw3 : w.heap.size < w3.heap.size := Nat.lt_of_lt_of_le hw2 hbel.size; obtain ⟨o0, o1, o2, o3, o4, o5, o6, o7⟩ := HX3.out; clear hbel n0 n1 n2 n3 n4 n5 n6 n7) | (go_at_call 7; refine (NW.out _).mono ?_; rintro e w4 ⟨p, rfl, hp, hpk, hbel⟩; have HB4 : Hid (Below w.heap.size w w4) := HB3.out.trans (hbel.mono HB3.out.size); have HX4 : Hid (BoxQ w4 w.heap.size a b c d now ttl Ak mk ck Av mv cv) := HX3.out.below hbel hw3; have HPK := Lib.hid hpk; have HP := Lib.hid (Nat.le_trans HB3.out.size hp); obtain ⟨p0, p1, p2, p3, p4, p5, p6, p7⟩ := HX4.out; clear hbel hpk hp o0 o1 o2 o3 o4 o5 o6 o7) | (go_at_call 8; refine (PU.out _ p HB4.out HPK.out).mono ?_; intro e w5 hpp; obtain ⟨L, rfl, hfar⟩ := HPP.out _ _ _ _ hpp; have HB5 : Hid (Below w.heap.size w w5) := HB4.out.trans (hfar.below HP.out (fun _ h => by cases h) HB4.out.size); clear hfar hpp) | (go_at_call 5; refine (admitAwake_any _).mono ?_; rintro e w9 ⟨rfl, hbel⟩; have HB9 : Hid (Below w.heap.size w w9) := HB5.out.trans (hbel.mono HB5.out.size); clear hbel))
        go_ret
        exact ⟨rfl, HB9.out⟩
      · go_wp2_with (first | (go_at_call 4; refine (RF.out _).mono ?_; rintro e w2 ⟨rfl, hbel⟩; have HB2 : Hid (Below w.heap.size w w2) := HB1.out.trans (hbel.mono HB1.out.size); have HX2 : Hid (BoxQ w2 w.heap.size a b c d now ttl Ak mk ck Av mv cv) := HX1.out.below hbel hw1; have hw2 : w.heap.size < w2.heap.size := Nat.lt_of_lt_of_le hw1 hbel.size; obtain ⟨n0, n1, n2, n3, n4, n5, n6, n7⟩ := HX2.out; clear hbel) | (go_at_call 6; refine (CK.out _).mono ?_; rintro e w3 ⟨rfl, hbel⟩; have HB3 : Hid (Below w.heap.size w w3) := HB2.out.trans (hbel.mono HB2.out.size); have HX3 : Hid (BoxQ w3 w.heap.size a b c d now ttl Ak mk ck Av mv cv) := HX2.out.below hbel hw2; have hw3 : w.heap.size < w3.heap.size := Nat.lt_of_lt_of_le hw2 hbel.size; obtain ⟨o0, o1, o2, o3, o4, o5, o6, o7⟩ := HX3.out; clear hbel n0 n1 n2 n3 n4 n5 n6 n7) | (go_at_call 7; refine (NW.out _).mono ?_; rintro e w4 ⟨p, rfl, hp, hpk, hbel⟩; have HB4 : Hid (Below w.heap.size w w4) := HB3.out.trans (hbel.mono HB3.out.size); have HX4 : Hid (BoxQ w4 w.heap.size a b c d now ttl Ak mk ck Av mv cv) := HX3.out.below hbel hw3; have HPK := Lib.hid hpk; have HP := Lib.hid (Nat.le_trans HB3.out.size hp); obtain ⟨p0, p1, p2, p3, p4, p5, p6, p7⟩ := HX4.out; clear hbel hpk hp o0 o1 o2 o3 o4 o5 o6 o7) | (go_at_call 8; refine (PU.out _ p HB4.out HPK.out).mono ?_; intro e w5 hpp; obtain ⟨L, rfl, hfar⟩ := HPP.out _ _ _ _ hpp; have HB5 : Hid (Below w.heap.size w w5) := HB4.out.trans (hfar.below HP.out (fun _ h => by cases h) HB4.out.size); clear hfar hpp) | (go_at_call 5; refine (admitAwake_any _).mono ?_; rintro e w9 ⟨rfl, hbel⟩; have HB9 : Hid (Below w.heap.size w w9) := HB5.out.trans (hbel.mono HB5.out.size); clear hbel))
        go_ret
        exact ⟨rfl, HB9.out⟩
end Go.Proofs.YtmhkhjcpicihmaaDoor
