/- The walk of the law PlanDecode. -/
import Derived.Test.YthjnbdbbeidhgaaDoorPlanDec2
import Derived.Deep.DeepCutAuto
namespace Go.Proofs.YthjnbdbbeidhgaaDoor
open Go.RowKit

theorem own_set8 {v : World} {base rb n : Nat} {e : TypeId} {x : Value} {bs : List UInt8} (h : Own v base e x n bs) (hrb : rb < base) (x0 x1 x2 x3 x4 x5 x6 x7 : Value) : Own ((((((((v.setCell ⟨rb, 0, none⟩ x0).setCell ⟨rb, 1, none⟩ x1).setCell ⟨rb, 2, none⟩ x2).setCell ⟨rb, 3, none⟩ x3).setCell ⟨rb, 4, none⟩ x4).setCell ⟨rb, 5, none⟩ x5).setCell ⟨rb, 6, none⟩ x6).setCell ⟨rb, 7, none⟩ x7) base e x n bs :=
  h.keepIn fun k hk _ => ((Below.heap_setCell _ _ _ k (by simp only; omega)).trans ((Below.heap_setCell _ _ _ k (by simp only; omega)).trans ((Below.heap_setCell _ _ _ k (by simp only; omega)).trans ((Below.heap_setCell _ _ _ k (by simp only; omega)).trans ((Below.heap_setCell _ _ _ k (by simp only; omega)).trans ((Below.heap_setCell _ _ _ k (by simp only; omega)).trans ((Below.heap_setCell _ _ _ k (by simp only; omega)).trans (Below.heap_setCell _ _ _ k (by simp only; omega)))))))))
theorem cells_other8 {v : World} {g h : Nat} (hne : g ≠ h) {l : List Value} (hc : Cells v h l) (x0 x1 x2 x3 x4 x5 x6 x7 : Value) : Cells ((((((((v.setCell ⟨g, 0, none⟩ x0).setCell ⟨g, 1, none⟩ x1).setCell ⟨g, 2, none⟩ x2).setCell ⟨g, 3, none⟩ x3).setCell ⟨g, 4, none⟩ x4).setCell ⟨g, 5, none⟩ x5).setCell ⟨g, 6, none⟩ x6).setCell ⟨g, 7, none⟩ x7) h l := by
  have ot : ∀ (u : World) (i j : Nat) (x : Value), (u.setCell ⟨g, i, none⟩ x).cell? ⟨h, j, none⟩ = u.cell? ⟨h, j, none⟩ := fun u i j x => World.cell?_setCell_other _ _ _ _ (fun e => by injection e; omega)
  intro j x hj
  rw [ot, ot, ot, ot, ot, ot, ot, ot]
  exact hc j x hj
theorem cells_set8' {v : World} {g : Nat} {x0 x1 x2 x3 x4 x5 x6 x7 y0 y1 y2 y3 y4 y5 y6 y7 : Value} (h : Cells v g [y0, y1, y2, y3, y4, y5, y6, y7]) :
    Cells ((((((((v.setCell ⟨g, 0, none⟩ x0).setCell ⟨g, 1, none⟩ x1).setCell ⟨g, 2, none⟩ x2).setCell ⟨g, 3, none⟩ x3).setCell ⟨g, 4, none⟩ x4).setCell ⟨g, 5, none⟩ x5).setCell ⟨g, 6, none⟩ x6).setCell ⟨g, 7, none⟩ x7) g [x0, x1, x2, x3, x4, x5, x6, x7] := by
  have ot : ∀ (u : World) (i j : Nat) (x : Value), i ≠ j → (u.setCell ⟨g, i, none⟩ x).cell? ⟨g, j, none⟩ = u.cell? ⟨g, j, none⟩ := fun u i j x hij => World.cell?_setCell_other _ _ _ _ (fun e => by injection e; omega)
  intro j x hj
  match j, hj with
  | 0, hj => cases hj; rw [ot _ 7 0 _ (by decide)]; rw [ot _ 6 0 _ (by decide)]; rw [ot _ 5 0 _ (by decide)]; rw [ot _ 4 0 _ (by decide)]; rw [ot _ 3 0 _ (by decide)]; rw [ot _ 2 0 _ (by decide)]; rw [ot _ 1 0 _ (by decide)]; exact World.cell?_setCell_same _ _ _ (by  exact h 0 _ rfl)
  | 1, hj => cases hj; rw [ot _ 7 1 _ (by decide)]; rw [ot _ 6 1 _ (by decide)]; rw [ot _ 5 1 _ (by decide)]; rw [ot _ 4 1 _ (by decide)]; rw [ot _ 3 1 _ (by decide)]; rw [ot _ 2 1 _ (by decide)]; exact World.cell?_setCell_same _ _ _ (by rw [ot _ 0 1 _ (by decide)]; exact h 1 _ rfl)
  | 2, hj => cases hj; rw [ot _ 7 2 _ (by decide)]; rw [ot _ 6 2 _ (by decide)]; rw [ot _ 5 2 _ (by decide)]; rw [ot _ 4 2 _ (by decide)]; rw [ot _ 3 2 _ (by decide)]; exact World.cell?_setCell_same _ _ _ (by rw [ot _ 1 2 _ (by decide)]; rw [ot _ 0 2 _ (by decide)]; exact h 2 _ rfl)
  | 3, hj => cases hj; rw [ot _ 7 3 _ (by decide)]; rw [ot _ 6 3 _ (by decide)]; rw [ot _ 5 3 _ (by decide)]; rw [ot _ 4 3 _ (by decide)]; exact World.cell?_setCell_same _ _ _ (by rw [ot _ 2 3 _ (by decide)]; rw [ot _ 1 3 _ (by decide)]; rw [ot _ 0 3 _ (by decide)]; exact h 3 _ rfl)
  | 4, hj => cases hj; rw [ot _ 7 4 _ (by decide)]; rw [ot _ 6 4 _ (by decide)]; rw [ot _ 5 4 _ (by decide)]; exact World.cell?_setCell_same _ _ _ (by rw [ot _ 3 4 _ (by decide)]; rw [ot _ 2 4 _ (by decide)]; rw [ot _ 1 4 _ (by decide)]; rw [ot _ 0 4 _ (by decide)]; exact h 4 _ rfl)
  | 5, hj => cases hj; rw [ot _ 7 5 _ (by decide)]; rw [ot _ 6 5 _ (by decide)]; exact World.cell?_setCell_same _ _ _ (by rw [ot _ 4 5 _ (by decide)]; rw [ot _ 3 5 _ (by decide)]; rw [ot _ 2 5 _ (by decide)]; rw [ot _ 1 5 _ (by decide)]; rw [ot _ 0 5 _ (by decide)]; exact h 5 _ rfl)
  | 6, hj => cases hj; rw [ot _ 7 6 _ (by decide)]; exact World.cell?_setCell_same _ _ _ (by rw [ot _ 5 6 _ (by decide)]; rw [ot _ 4 6 _ (by decide)]; rw [ot _ 3 6 _ (by decide)]; rw [ot _ 2 6 _ (by decide)]; rw [ot _ 1 6 _ (by decide)]; rw [ot _ 0 6 _ (by decide)]; exact h 6 _ rfl)
  | 7, hj => cases hj;  exact World.cell?_setCell_same _ _ _ (by rw [ot _ 6 7 _ (by decide)]; rw [ot _ 5 7 _ (by decide)]; rw [ot _ 4 7 _ (by decide)]; rw [ot _ 3 7 _ (by decide)]; rw [ot _ 2 7 _ (by decide)]; rw [ot _ 1 7 _ (by decide)]; rw [ot _ 0 7 _ (by decide)]; exact h 7 _ rfl)
theorem size_set8 {v : World} {g : Nat} {x0 x1 x2 x3 x4 x5 x6 x7 : Value} : ((((((((v.setCell ⟨g, 0, none⟩ x0).setCell ⟨g, 1, none⟩ x1).setCell ⟨g, 2, none⟩ x2).setCell ⟨g, 3, none⟩ x3).setCell ⟨g, 4, none⟩ x4).setCell ⟨g, 5, none⟩ x5).setCell ⟨g, 6, none⟩ x6).setCell ⟨g, 7, none⟩ x7).heap.size = v.heap.size := by simp [World.setCell]

set_option maxRecDepth 100000 in
set_option maxHeartbeats 8000000 in
theorem planDecode_any (bs ps : List UInt8) (A Ap : Option Addr) (n cap np capp : Nat) (sc : Int) (w : World) (ht : TabAt w) (h0 : 0 < w.heap.size) (hb : Byt w w.heap.size A n bs) (hn : n ≤ cap) (hcap : cap ≤ 9223372036854775807) (hp : Byt w w.heap.size Ap np ps) (hnp : np ≤ capp) (hcapp : capp ≤ 9223372036854775807) :
    Calls Tryd.prog 4 #[.slice A n cap, .slice Ap np capp, .int .i64 sc] w fun e w' => e = .returned (.bool true) ∧ Below w.heap.size w w' := by
  have HT : Hid (∀ w', Below w.heap.size w w' → TabAt w' ∧ 0 < w'.heap.size) := fun w' hw => ⟨ht.below hw h0, Nat.lt_of_lt_of_le h0 hw.size⟩
  obtain ⟨mb, hmb⟩ : ∃ m, (n ≤ 70 ∧ m = n) ∨ (70 < n ∧ m = 70) := by
    by_cases h : n ≤ 70
    · exact ⟨n, .inl ⟨h, rfl⟩⟩
    · exact ⟨70, .inr ⟨by omega, rfl⟩⟩
  obtain ⟨mp, hmp⟩ : ∃ m, (np ≤ 59 ∧ m = np) ∨ (59 < np ∧ m = 59) := by
    by_cases h : np ≤ 59
    · exact ⟨np, .inl ⟨h, rfl⟩⟩
    · exact ⟨59, .inr ⟨by omega, rfl⟩⟩
  obtain ⟨b', hb'⟩ : ∃ x, bs.take mb = x := ⟨_, rfl⟩
  obtain ⟨p', hp'⟩ : ∃ x, ps.take mp = x := ⟨_, rfl⟩
  have HY : Hid (∀ w', Below w.heap.size w w' → Byt w' w.heap.size A mb b') := fun w' hw => by rw [← hb']; exact (hb.take (by omega)).below hw
  have HZ : Hid (∀ w', Below w.heap.size w w' → Byt w' w.heap.size Ap mp p') := fun w' hw => by rw [← hp']; exact (hp.take (by omega)).below hw
  have hmbc : mb ≤ cap := by omega
  have hmp59 : mp ≤ 59 := by omega
  have hpl := (HZ.out w (Below.refl _ _)).len
  obtain ⟨r, hr⟩ : ∃ r, pdecW pread sc b' = r := ⟨_, rfl⟩
  have hr' : pdecW preadR sc b' = r := by rw [pdec_two]; exact hr
  obtain ⟨fr, hfr⟩ : ∃ fr, frame 4 0 sc.toNat p' = fr := ⟨_, rfl⟩
  have hfl : fr.length = 64 := by rw [← hfr]; exact frame_len (by rw [hpl]; exact hmp59)
  obtain ⟨r2, hr2⟩ : ∃ r, pdecW pread sc fr = r := ⟨_, rfl⟩
  have hr2' : pdecW preadR sc fr = r2 := by rw [pdec_two]; exact hr2
  obtain ⟨⟨k, m, i, t, a, b, c, d⟩, hq⟩ : ∃ q, r.getD (0, 0, 0, 0, 0, 0, 0, 0) = q := ⟨_, rfl⟩
  obtain ⟨v, hv⟩ : ∃ x, r.isSome = x := ⟨_, rfl⟩
  obtain ⟨⟨k', m', i', t', a', b'', c', d'⟩, hq2⟩ : ∃ q, r2.getD (0, 0, 0, 0, 0, 0, 0, 0) = q := ⟨_, rfl⟩
  obtain ⟨v2, hv2⟩ : ∃ x, r2.isSome = x := ⟨_, rfl⟩
  have D1 : Hid (∀ (u : World), Below w.heap.size w u → Calls Tryd.prog 13 #[.slice A mb cap, .int .i64 sc] u fun e u' => e = .returned (.tuple #[.agg #[.int .i64 k, .int .i64 m, .int .i64 i, .int .i64 t, .int .i64 a, .int .i64 b, .int .i64 c, .int .i64 d], .bool v]) ∧ Below u.heap.size u u') := fun u hu => (pdecode_any sc b' A mb cap w.heap.size u (HT.out _ hu).1 (HT.out _ hu).2 (HY.out _ hu) hmbc hcap hu.size r hr).mono fun e u' h => by rw [PDecRes, hq, hv] at h; exact h
  have D2 : Hid (∀ (u : World), Below w.heap.size w u → Calls Tryd.prog 16 #[.slice A mb cap, .int .i64 sc] u fun e u' => e = .returned (.tuple #[.agg #[.int .i64 k, .int .i64 m, .int .i64 i, .int .i64 t, .int .i64 a, .int .i64 b, .int .i64 c, .int .i64 d], .bool v]) ∧ Below u.heap.size u u') := fun u hu => (refPdecode_any sc b' A mb cap w.heap.size u (HY.out _ hu) hmbc hcap hu.size r hr').mono fun e u' h => by rw [PDecRes, hq, hv] at h; exact h
  have D3 : Hid (∀ (u u0 : World) (A2 : Option Addr) (c2 : Nat), Below w.heap.size w u → Byt u u0.heap.size A2 64 fr → u0.heap.size ≤ u.heap.size → 64 ≤ c2 → c2 ≤ 9223372036854775807 → Calls Tryd.prog 13 #[.slice A2 64 c2, .int .i64 sc] u fun e u' => e = .returned (.tuple #[.agg #[.int .i64 k', .int .i64 m', .int .i64 i', .int .i64 t', .int .i64 a', .int .i64 b'', .int .i64 c', .int .i64 d'], .bool v2]) ∧ Below u.heap.size u u') := fun u u0 A2 c2 hu hby hle h1 h2 => (pdecode_any sc fr A2 64 c2 u0.heap.size u (HT.out _ hu).1 (HT.out _ hu).2 hby h1 h2 hle r2 hr2).mono fun e u' h => by rw [PDecRes, hq2, hv2] at h; exact h
  have D4 : Hid (∀ (u u0 : World) (A2 : Option Addr) (c2 : Nat), Byt u u0.heap.size A2 64 fr → u0.heap.size ≤ u.heap.size → 64 ≤ c2 → c2 ≤ 9223372036854775807 → Calls Tryd.prog 16 #[.slice A2 64 c2, .int .i64 sc] u fun e u' => e = .returned (.tuple #[.agg #[.int .i64 k', .int .i64 m', .int .i64 i', .int .i64 t', .int .i64 a', .int .i64 b'', .int .i64 c', .int .i64 d'], .bool v2]) ∧ Below u.heap.size u u') := fun u u0 A2 c2 hby hle h1 h2 => (refPdecode_any sc fr A2 64 c2 u0.heap.size u hby h1 h2 hle r2 hr2').mono fun e u' h => by rw [PDecRes, hq2, hv2] at h; exact h
  have E1 : Hid (0 ≤ sc → sc < 1048576 → ∀ (u : World), Below w.heap.size w u → Calls Tryd.prog 17 #[.int .i64 4, .int .i64 0, .int .i64 sc, .slice Ap mp capp] u (PutRes u.heap.size fr u)) := fun hs0 hs1 u hu => by
    have e : ((sc.toNat : Nat) : Int) = sc := by omega
    have h := refEncode_any 4 0 sc.toNat p' Ap mp capp w.heap.size u (HZ.out _ hu) hmp59 hu.size (by decide) (by omega) fr hfr
    rw [e] at h
    exact h
  have HFL := Lib.hid hfl
  have HMB := Lib.hid hmb
  have HMP := Lib.hid hmp
  have hbc : (mb : Int) ≤ (cap : Int) := by omega
  have hpc : (mp : Int) ≤ (capp : Int) := by omega
  have heq1 := pln_eq k m i t a b c d
  have heq2 := pln_eq k' m' i' t' a' b'' c' d'
  have AW := Lib.hid (fun (u : World) => planAwake_any u)
  clear hr hr' hr2 hr2' hq hq2 hv hv2 hfr hfl hb' hp' hb hp hpl ht h0 hmb hmp hn hnp hcapp
  go_enter Tryd.func4, Tryd.ntmps4
  go_upto_region 1 with fail
  go_cut [0, 1] (fun x y wx => x = .slice A mb cap ∧ y = .slice Ap mp capp ∧ wx = w.drew)
  case first =>
    rcases HMB.out with ⟨hb1, rfl⟩ | ⟨hb1, rfl⟩
    all_goals rcases HMP.out with ⟨hp1, rfl⟩ | ⟨hp1, rfl⟩
    · have hb2 : (mb : Int) ≤ 70 := by omega
      have hp2 : (mp : Int) ≤ 59 := by omega
      have hb3 : min (mb : Int) 70 = (mb : Int) := by omega
      have hp3 : min (mp : Int) 59 = (mp : Int) := by omega
      go_region
      all_goals
        go_wp2_with fail
        (try go_simp)
        go_meet
        exact ⟨rfl, rfl, rfl⟩
    · have hb2 : (mb : Int) ≤ 70 := by omega
      have hp2 : (59 : Int) < (np : Int) := by omega
      have hb3 : min (mb : Int) 70 = (mb : Int) := by omega
      have hp3 : min (np : Int) 59 = 59 := by omega
      go_region
      all_goals
        go_wp2_with fail
        (try go_simp)
        go_meet
        exact ⟨rfl, rfl, rfl⟩
    · have hb2 : (70 : Int) < (n : Int) := by omega
      have hp2 : (mp : Int) ≤ 59 := by omega
      have hb3 : min (n : Int) 70 = 70 := by omega
      have hp3 : min (mp : Int) 59 = (mp : Int) := by omega
      go_region
      all_goals
        go_wp2_with fail
        (try go_simp)
        go_meet
        exact ⟨rfl, rfl, rfl⟩
    · have hb2 : (70 : Int) < (n : Int) := by omega
      have hp2 : (59 : Int) < (np : Int) := by omega
      have hb3 : min (n : Int) 70 = 70 := by omega
      have hp3 : min (np : Int) 59 = 59 := by omega
      go_region
      all_goals
        go_wp2_with fail
        (try go_simp)
        go_meet
        exact ⟨rfl, rfl, rfl⟩
  case rest =>
    obtain ⟨rfl, rfl, rfl⟩ := hcut
    have HB0 : Hid (Below w.heap.size w w.drew) := Below.drew (Below.refl _ _)
    clear HMB HMP hbc hpc
    go_wp2_with fail
    refine (D1.out _ HB0.out).mono ?_
    rintro e w1 ⟨rfl, hbel⟩
    have HB1 := Lib.hid (HB0.out.trans (hbel.mono HB0.out.size))
    clear hbel
    have HB1a := Lib.hid (HB1.out.alloc HB1.out.size (.cells #[.int .i64 k, .int .i64 m, .int .i64 i, .int .i64 t, .int .i64 a, .int .i64 b, .int .i64 c, .int .i64 d] 25))
    have HX1 := Lib.hid (Cells.new w1 25 #[.int .i64 k, .int .i64 m, .int .i64 i, .int .i64 t, .int .i64 a, .int .i64 b, .int .i64 c, .int .i64 d])
    have HFX1 : Hid (∀ j, (w1.alloc (.cells #[.int .i64 k, .int .i64 m, .int .i64 i, .int .i64 t, .int .i64 a, .int .i64 b, .int .i64 c, .int .i64 d] 25)).frozen? ⟨w1.heap.size, j, none⟩ = false) := fun j => frozen_of_row _ _ j _ _ (heap_alloc_new w1 _)
    have hz1 : w1.heap.size < (w1.alloc (.cells #[.int .i64 k, .int .i64 m, .int .i64 i, .int .i64 t, .int .i64 a, .int .i64 b, .int .i64 c, .int .i64 d] 25)).heap.size := by simp
    go_wp2_with fail
    refine (D2.out _ HB1a.out).mono ?_
    rintro e w2 ⟨rfl, hbel⟩
    have HB2 := Lib.hid (HB1a.out.trans (hbel.mono HB1a.out.size))
    have HX2 := Lib.hid (HX1.out.below hbel hz1)
    have HFX2 : Hid (∀ j, w2.frozen? ⟨w1.heap.size, j, none⟩ = false) := fun j => (hbel.frozen (p := ⟨w1.heap.size, j, none⟩) (by simp)).trans (HFX1.out j)
    have hw2 : w1.heap.size < w2.heap.size := Nat.lt_of_lt_of_le hz1 hbel.size
    clear hbel
    have HB2a := Lib.hid (HB2.out.alloc HB2.out.size (.cells #[.int .i64 k, .int .i64 m, .int .i64 i, .int .i64 t, .int .i64 a, .int .i64 b, .int .i64 c, .int .i64 d] 25))
    have HX2a := Lib.hid (HX2.out.below ((Below.refl w2.heap.size w2).alloc (Nat.le_refl _) (.cells #[.int .i64 k, .int .i64 m, .int .i64 i, .int .i64 t, .int .i64 a, .int .i64 b, .int .i64 c, .int .i64 d] 25)) hw2)
    have HY2 := Lib.hid (Cells.new w2 25 #[.int .i64 k, .int .i64 m, .int .i64 i, .int .i64 t, .int .i64 a, .int .i64 b, .int .i64 c, .int .i64 d])
    have HF2 : Hid (∀ j, (w2.alloc (.cells #[.int .i64 k, .int .i64 m, .int .i64 i, .int .i64 t, .int .i64 a, .int .i64 b, .int .i64 c, .int .i64 d] 25)).frozen? ⟨w2.heap.size, j, none⟩ = false) := fun j => frozen_of_row _ _ j _ _ (heap_alloc_new w2 _)
    have hgn : ¬ w1.heap.size = w2.heap.size := by omega
    have l0 := HX2.out 0 _ rfl
    have l1 := HX2.out 1 _ rfl
    have l2 := HX2.out 2 _ rfl
    have l3 := HX2.out 3 _ rfl
    have l4 := HX2.out 4 _ rfl
    have l5 := HX2.out 5 _ rfl
    have l6 := HX2.out 6 _ rfl
    have l7 := HX2.out 7 _ rfl
    rcases Int.lt_or_le sc 0 with q | q
    · go_wp2_with fail
      refine (AW.out _).mono ?_
      rintro e w4 ⟨rfl, hbel⟩
      have HB4 := Lib.hid (HB2a.out.trans (hbel.mono HB2a.out.size))
      clear hbel
      go_wp2
      go_ret
      exact ⟨rfl, HB4.out⟩
    rcases Int.lt_or_le sc 1048576 with q2 | q2
    rotate_left
    · go_wp2_with fail
      refine (AW.out _).mono ?_
      rintro e w4 ⟨rfl, hbel⟩
      have HB4 := Lib.hid (HB2a.out.trans (hbel.mono HB2a.out.size))
      clear hbel
      go_wp2
      go_ret
      exact ⟨rfl, HB4.out⟩
    have E2 := Lib.hid (E1.out q q2)
    go_wp2_with fail
    refine (E2.out _ HB2a.out).mono ?_
    rintro e w3 ⟨A3, c3, rfl, hown, hbel⟩
    rw [HFL.out] at hown ⊢
    obtain ⟨_, _, hvv, hc1, hc2⟩ := hown.form
    injection hvv with hv1 hv2 hv3
    subst hv3
    have HO3 : Hid (Own w3 (w2.heap.size + 1) 5 (.slice A3 64 c3) 64 fr) := hown.mono (by simp)
    have HB3 := Lib.hid (HB2a.out.trans (hbel.mono HB2a.out.size))
    have HX3 := Lib.hid (HX2a.out.below hbel (by simp; omega))
    have HY3 := Lib.hid (HY2.out.below hbel (by simp))
    have HFX3 : Hid (∀ j, w3.frozen? ⟨w1.heap.size, j, none⟩ = false) := fun j => (hbel.frozen (p := ⟨w1.heap.size, j, none⟩) (by simp; omega)).trans (((Below.alloc (Below.refl w2.heap.size w2) (Nat.le_refl _) _).frozen (p := ⟨w1.heap.size, j, none⟩) (by simp only; omega)).trans (HFX2.out j))
    have HFY3 : Hid (∀ j, w3.frozen? ⟨w2.heap.size, j, none⟩ = false) := fun j => (hbel.frozen (p := ⟨w2.heap.size, j, none⟩) (by simp)).trans (HF2.out j)
    have hw3 : w2.heap.size < w3.heap.size := by have := hbel.size; simp at this; omega
    clear hown hbel hv1 hv2 l0 l1 l2 l3 l4 l5 l6 l7
    go_wp2_with fail
    refine (D3.out _ w3 A3 c3 HB3.out HO3.out.byt (Nat.le_refl _) hc1 hc2).mono ?_
    rintro e w4 ⟨rfl, hbel⟩
    have HB4 := Lib.hid (HB3.out.trans (hbel.mono HB3.out.size))
    have HX4 := Lib.hid (HX3.out.below hbel (by omega))
    have HY4 := Lib.hid (HY3.out.below hbel hw3)
    have HO4 := Lib.hid (HO3.out.keep hbel)
    have HFX4 : Hid (∀ j, w4.frozen? ⟨w1.heap.size, j, none⟩ = false) := fun j => (hbel.frozen (p := ⟨w1.heap.size, j, none⟩) (by simp only; omega)).trans (HFX3.out j)
    have HFY4 : Hid (∀ j, w4.frozen? ⟨w2.heap.size, j, none⟩ = false) := fun j => (hbel.frozen (p := ⟨w2.heap.size, j, none⟩) (by simp only; omega)).trans (HFY3.out j)
    have hw4 : w2.heap.size < w4.heap.size := Nat.lt_of_lt_of_le hw3 hbel.size
    clear hbel
    have l0 := HX4.out 0 _ rfl
    have f0 := HFX4.out 0
    have l1 := HX4.out 1 _ rfl
    have f1 := HFX4.out 1
    have l2 := HX4.out 2 _ rfl
    have f2 := HFX4.out 2
    have l3 := HX4.out 3 _ rfl
    have f3 := HFX4.out 3
    have l4 := HX4.out 4 _ rfl
    have f4 := HFX4.out 4
    have l5 := HX4.out 5 _ rfl
    have f5 := HFX4.out 5
    have l6 := HX4.out 6 _ rfl
    have f6 := HFX4.out 6
    have l7 := HX4.out 7 _ rfl
    have f7 := HFX4.out 7
    have HVX : Hid (Cells ((((((((w4.setCell ⟨w1.heap.size, 0, none⟩ (.int .i64 k')).setCell ⟨w1.heap.size, 1, none⟩ (.int .i64 m')).setCell ⟨w1.heap.size, 2, none⟩ (.int .i64 i')).setCell ⟨w1.heap.size, 3, none⟩ (.int .i64 t')).setCell ⟨w1.heap.size, 4, none⟩ (.int .i64 a')).setCell ⟨w1.heap.size, 5, none⟩ (.int .i64 b'')).setCell ⟨w1.heap.size, 6, none⟩ (.int .i64 c')).setCell ⟨w1.heap.size, 7, none⟩ (.int .i64 d')) w1.heap.size #[.int .i64 k', .int .i64 m', .int .i64 i', .int .i64 t', .int .i64 a', .int .i64 b'', .int .i64 c', .int .i64 d'].toList) := cells_set8' HX4.out
    have HVY : Hid (Cells ((((((((w4.setCell ⟨w1.heap.size, 0, none⟩ (.int .i64 k')).setCell ⟨w1.heap.size, 1, none⟩ (.int .i64 m')).setCell ⟨w1.heap.size, 2, none⟩ (.int .i64 i')).setCell ⟨w1.heap.size, 3, none⟩ (.int .i64 t')).setCell ⟨w1.heap.size, 4, none⟩ (.int .i64 a')).setCell ⟨w1.heap.size, 5, none⟩ (.int .i64 b'')).setCell ⟨w1.heap.size, 6, none⟩ (.int .i64 c')).setCell ⟨w1.heap.size, 7, none⟩ (.int .i64 d')) w2.heap.size #[.int .i64 k, .int .i64 m, .int .i64 i, .int .i64 t, .int .i64 a, .int .i64 b, .int .i64 c, .int .i64 d].toList) := cells_other8 hgn HY4.out _ _ _ _ _ _ _ _
    have HVB : Hid (Below w.heap.size w ((((((((w4.setCell ⟨w1.heap.size, 0, none⟩ (.int .i64 k')).setCell ⟨w1.heap.size, 1, none⟩ (.int .i64 m')).setCell ⟨w1.heap.size, 2, none⟩ (.int .i64 i')).setCell ⟨w1.heap.size, 3, none⟩ (.int .i64 t')).setCell ⟨w1.heap.size, 4, none⟩ (.int .i64 a')).setCell ⟨w1.heap.size, 5, none⟩ (.int .i64 b'')).setCell ⟨w1.heap.size, 6, none⟩ (.int .i64 c')).setCell ⟨w1.heap.size, 7, none⟩ (.int .i64 d'))) := HB4.out.trans (below_set8 (by have := HB1.out.size; omega))
    have HVO : Hid (Own ((((((((w4.setCell ⟨w1.heap.size, 0, none⟩ (.int .i64 k')).setCell ⟨w1.heap.size, 1, none⟩ (.int .i64 m')).setCell ⟨w1.heap.size, 2, none⟩ (.int .i64 i')).setCell ⟨w1.heap.size, 3, none⟩ (.int .i64 t')).setCell ⟨w1.heap.size, 4, none⟩ (.int .i64 a')).setCell ⟨w1.heap.size, 5, none⟩ (.int .i64 b'')).setCell ⟨w1.heap.size, 6, none⟩ (.int .i64 c')).setCell ⟨w1.heap.size, 7, none⟩ (.int .i64 d')) (w2.heap.size + 1) 5 (.slice A3 64 c3) 64 fr) := own_set8 HO4.out (by omega) _ _ _ _ _ _ _ _
    have hvs : ((((((((w4.setCell ⟨w1.heap.size, 0, none⟩ (.int .i64 k')).setCell ⟨w1.heap.size, 1, none⟩ (.int .i64 m')).setCell ⟨w1.heap.size, 2, none⟩ (.int .i64 i')).setCell ⟨w1.heap.size, 3, none⟩ (.int .i64 t')).setCell ⟨w1.heap.size, 4, none⟩ (.int .i64 a')).setCell ⟨w1.heap.size, 5, none⟩ (.int .i64 b'')).setCell ⟨w1.heap.size, 6, none⟩ (.int .i64 c')).setCell ⟨w1.heap.size, 7, none⟩ (.int .i64 d')).heap.size = w4.heap.size := size_set8
    have HVF : Hid (∀ j, ((((((((w4.setCell ⟨w1.heap.size, 0, none⟩ (.int .i64 k')).setCell ⟨w1.heap.size, 1, none⟩ (.int .i64 m')).setCell ⟨w1.heap.size, 2, none⟩ (.int .i64 i')).setCell ⟨w1.heap.size, 3, none⟩ (.int .i64 t')).setCell ⟨w1.heap.size, 4, none⟩ (.int .i64 a')).setCell ⟨w1.heap.size, 5, none⟩ (.int .i64 b'')).setCell ⟨w1.heap.size, 6, none⟩ (.int .i64 c')).setCell ⟨w1.heap.size, 7, none⟩ (.int .i64 d')).frozen? ⟨w2.heap.size, j, none⟩ = false) := fun j => by simp only [World.frozen?_setCell]; exact HFY4.out j
    go_wp2_with fail
    clear l0 l1 l2 l3 l4 l5 l6 l7 f0 f1 f2 f3 f4 f5 f6 f7
    refine (D4.out _ _ A3 c3 HVO.out.byt (Nat.le_refl _) hc1 hc2).mono ?_
    rintro e w5 ⟨rfl, hbel⟩
    have HB5 := Lib.hid (HVB.out.trans (hbel.mono HVB.out.size))
    have HX5 := Lib.hid (HVX.out.below hbel (by rw [hvs]; omega))
    have HY5 := Lib.hid (HVY.out.below hbel (by rw [hvs]; omega))
    have HFY5 : Hid (∀ j, w5.frozen? ⟨w2.heap.size, j, none⟩ = false) := fun j => (hbel.frozen (p := ⟨w2.heap.size, j, none⟩) (by rw [hvs]; exact hw4)).trans (HVF.out j)
    have hw5 : w2.heap.size < w5.heap.size := by have := hbel.size; rw [hvs] at this; omega
    clear hbel
    have l0 := HY5.out 0 _ rfl
    have f0 := HFY5.out 0
    have l1 := HY5.out 1 _ rfl
    have f1 := HFY5.out 1
    have l2 := HY5.out 2 _ rfl
    have f2 := HFY5.out 2
    have l3 := HY5.out 3 _ rfl
    have f3 := HFY5.out 3
    have l4 := HY5.out 4 _ rfl
    have f4 := HFY5.out 4
    have l5 := HY5.out 5 _ rfl
    have f5 := HFY5.out 5
    have l6 := HY5.out 6 _ rfl
    have f6 := HFY5.out 6
    have l7 := HY5.out 7 _ rfl
    have f7 := HFY5.out 7
    have HWY : Hid (Cells ((((((((w5.setCell ⟨w2.heap.size, 0, none⟩ (.int .i64 k')).setCell ⟨w2.heap.size, 1, none⟩ (.int .i64 m')).setCell ⟨w2.heap.size, 2, none⟩ (.int .i64 i')).setCell ⟨w2.heap.size, 3, none⟩ (.int .i64 t')).setCell ⟨w2.heap.size, 4, none⟩ (.int .i64 a')).setCell ⟨w2.heap.size, 5, none⟩ (.int .i64 b'')).setCell ⟨w2.heap.size, 6, none⟩ (.int .i64 c')).setCell ⟨w2.heap.size, 7, none⟩ (.int .i64 d')) w2.heap.size #[.int .i64 k', .int .i64 m', .int .i64 i', .int .i64 t', .int .i64 a', .int .i64 b'', .int .i64 c', .int .i64 d'].toList) := cells_set8' HY5.out
    have HWX : Hid (Cells ((((((((w5.setCell ⟨w2.heap.size, 0, none⟩ (.int .i64 k')).setCell ⟨w2.heap.size, 1, none⟩ (.int .i64 m')).setCell ⟨w2.heap.size, 2, none⟩ (.int .i64 i')).setCell ⟨w2.heap.size, 3, none⟩ (.int .i64 t')).setCell ⟨w2.heap.size, 4, none⟩ (.int .i64 a')).setCell ⟨w2.heap.size, 5, none⟩ (.int .i64 b'')).setCell ⟨w2.heap.size, 6, none⟩ (.int .i64 c')).setCell ⟨w2.heap.size, 7, none⟩ (.int .i64 d')) w1.heap.size #[.int .i64 k', .int .i64 m', .int .i64 i', .int .i64 t', .int .i64 a', .int .i64 b'', .int .i64 c', .int .i64 d'].toList) := cells_other8 (by omega) HX5.out _ _ _ _ _ _ _ _
    have HWB : Hid (Below w.heap.size w ((((((((w5.setCell ⟨w2.heap.size, 0, none⟩ (.int .i64 k')).setCell ⟨w2.heap.size, 1, none⟩ (.int .i64 m')).setCell ⟨w2.heap.size, 2, none⟩ (.int .i64 i')).setCell ⟨w2.heap.size, 3, none⟩ (.int .i64 t')).setCell ⟨w2.heap.size, 4, none⟩ (.int .i64 a')).setCell ⟨w2.heap.size, 5, none⟩ (.int .i64 b'')).setCell ⟨w2.heap.size, 6, none⟩ (.int .i64 c')).setCell ⟨w2.heap.size, 7, none⟩ (.int .i64 d'))) := HB5.out.trans (below_set8 (by have := HB1.out.size; omega))
    have hvs2 : ((((((((w5.setCell ⟨w2.heap.size, 0, none⟩ (.int .i64 k')).setCell ⟨w2.heap.size, 1, none⟩ (.int .i64 m')).setCell ⟨w2.heap.size, 2, none⟩ (.int .i64 i')).setCell ⟨w2.heap.size, 3, none⟩ (.int .i64 t')).setCell ⟨w2.heap.size, 4, none⟩ (.int .i64 a')).setCell ⟨w2.heap.size, 5, none⟩ (.int .i64 b'')).setCell ⟨w2.heap.size, 6, none⟩ (.int .i64 c')).setCell ⟨w2.heap.size, 7, none⟩ (.int .i64 d')).heap.size = w5.heap.size := size_set8
    go_wp2_with (go_at_call 12; refine (AW.out _).mono ?_; rintro e w6 ⟨rfl, hbel⟩; have HB6 := Lib.hid (HWB.out.trans (hbel.mono HWB.out.size)); have hx6 := HWX.out.below hbel (by rw [hvs2]; omega); have hy6 := HWY.out.below hbel (by rw [hvs2]; omega); have p0 := hx6 0 _ rfl; have p1 := hx6 1 _ rfl; have p2 := hx6 2 _ rfl; have p3 := hx6 3 _ rfl; have p4 := hx6 4 _ rfl; have p5 := hx6 5 _ rfl; have p6 := hx6 6 _ rfl; have p7 := hx6 7 _ rfl; have q0' := hy6 0 _ rfl; have q1' := hy6 1 _ rfl; have q2' := hy6 2 _ rfl; have q3' := hy6 3 _ rfl; have q4' := hy6 4 _ rfl; have q5' := hy6 5 _ rfl; have q6' := hy6 6 _ rfl; have q7' := hy6 7 _ rfl; clear hbel hx6 hy6)
    go_ret
    exact ⟨by first | rfl | simp, HB6.out⟩
end Go.Proofs.YthjnbdbbeidhgaaDoor
