/- The walk of record.Decode: version 1. -/
import Derived.Test.YtcaliolcmooooaaDoorRecDec
namespace Go.Proofs.YtcaliolcmooooaaDoor
open Go.RowKit

set_option maxRecDepth 100000 in
set_option maxHeartbeats 4000000 in
theorem recDec_1w2 (v s o : Int) (bs : List UInt8) (A : Option Addr) (n cap B : Nat) (w : World) (ht : TabAt w) (h0 : 0 < w.heap.size) (hb : Byt w B A n bs) (hn : n ≤ cap) (hcap : cap ≤ 9223372036854775807) (hB : B ≤ w.heap.size) (hs : s ≤ 9223372036854775807) (r : Option (Rcd × Nat)) (hr : rdec v s o bs = r) (h16 : ¬ n < 16) (hv1 : v = 1) (hx : ¬ 65536 < (rread v bs).2.2.2 ∧ ¬ n < 16 + (rread v bs).2.2.1 + (rread v bs).2.2.2 ∧ ¬ cap = 16 ∧ ¬ cap = 16 + (rread v bs).2.2.1) :
    Calls Tryd.prog 16 #[.int .i64 v, .int .i64 s, .int .i64 o, .slice A n cap] w (RDecRes r w) := by
  have _u := And.intro hn (And.intro hcap hs)
  clear _u
  have hbl := hb.len
  have HT : Hid (∀ w', Below w.heap.size w w' → TabAt w' ∧ 0 < w'.heap.size) := fun w' hw => ⟨ht.below hw h0, Nat.lt_of_lt_of_le h0 hw.size⟩
  have HY : Hid (∀ w', Below w.heap.size w w' → Byt w' w.heap.size A n bs) := fun w' hw => (hb.more hB).below hw
  have HB0 : Hid (Below w.heap.size w (w.alloc (.cells #[.int .i64 0, .slice none 0 0, .slice none 0 0, .int .i64 0] 26))) := (Below.refl _ _).alloc (Nat.le_refl _) _
  have h16' : ¬ (n : Int) < 16 := by omega
  obtain ⟨ad, _, rfl, _, _, _⟩ := hb.get (show 0 < n by omega)
  have hp1 : Byt w B (some (ad.add 1)) 11 ((bs.drop 1).take 11) := by
    have h1 := (hb.cut (k := 1) (cap := cap) (by omega) hn).take (k := 11) (by omega)
    rw [if_neg (by omega)] at h1
    exact h1
  have HP : Hid (∀ w', Below w.heap.size w w' → Byt w' w.heap.size (some (ad.add 1)) 11 ((bs.drop 1).take 11)) := fun w' hw => (hp1.more hB).below hw
  have hplen : ((bs.drop 1).take 11).length = 11 := hp1.len
  subst hv1
  obtain ⟨n1, hn1⟩ : ∃ x, num (((bs.drop 1).take 11 |>.drop 0).take 1) = x := ⟨_, rfl⟩
  obtain ⟨n2, hn2⟩ : ∃ x, num (((bs.drop 1).take 11 |>.drop 1).take 1) = x := ⟨_, rfl⟩
  obtain ⟨n3, hn3⟩ : ∃ x, num (((bs.drop 1).take 11 |>.drop 2).take 1) = x := ⟨_, rfl⟩
  obtain ⟨n4, hn4⟩ : ∃ x, num (((bs.drop 1).take 11 |>.drop 3).take 4) = x := ⟨_, rfl⟩
  obtain ⟨n5, hn5⟩ : ∃ x, num (((bs.drop 1).take 11 |>.drop 7).take 4) = x := ⟨_, rfl⟩
  have T1 := Lib.hid (fun w0 w g c hRS => rnum_any 0 1 1 n1 w0 w g c ((bs.drop 1).take 11) hRS rfl (by omega) (by decide) (by decide) hn1)
  have T2 := Lib.hid (fun w0 w g c hRS => rnum_any 1 1 2 n2 w0 w g c ((bs.drop 1).take 11) hRS rfl (by omega) (by decide) (by decide) hn2)
  have T3 := Lib.hid (fun w0 w g c hRS => rnum_any 2 1 3 n3 w0 w g c ((bs.drop 1).take 11) hRS rfl (by omega) (by decide) (by decide) hn3)
  have T4 := Lib.hid (fun w0 w g c hRS => rnum_any 3 4 7 n4 w0 w g c ((bs.drop 1).take 11) hRS rfl (by omega) (by decide) (by decide) hn4)
  have T5 := Lib.hid (fun w0 w g c hRS => rnum_any 7 4 11 n5 w0 w g c ((bs.drop 1).take 11) hRS rfl (by omega) (by decide) (by decide) hn5)
  have hl1 : n1 < 256 := by rw [← hn1]; exact take_lt1
  have hl2 : n2 < 256 := by rw [← hn2]; exact take_lt1
  have hl3 : n3 < 256 := by rw [← hn3]; exact take_lt1
  have hl4 : n4 < 281474976710656 := by rw [← hn4]; exact take_lt (by decide)
  have hl5 : n5 < 281474976710656 := by rw [← hn5]; exact take_lt (by decide)
  have en1 : n1 = num ((bs.drop 1).take 1) := by rw [← hn1, cut_cut _ 0 1 (by decide)]
  have en2 : n2 = num ((bs.drop 2).take 1) := by rw [← hn2, cut_cut _ 1 1 (by decide)]
  have en4 : n4 = num ((bs.drop 4).take 4) := by rw [← hn4, cut_cut _ 3 4 (by decide)]
  have en5 : n5 = num ((bs.drop 8).take 4) := by rw [← hn5, cut_cut _ 7 4 (by decide)]
  have hrd : rread 1 bs = (n1, n5, n2, n4) := by
    unfold rread
    rw [if_pos rfl, en1, en2, en4, en5]
  clear en1 en2 en4 en5
  rw [hrd] at hx
  simp only at hx
  unfold rdec at hr
  simp only [hrd] at hr
  clear hrd hn1 hn2 hn3 hn4 hn5 hp1 hb ht h0
  obtain ⟨hbig, hlong, hcap16, hcapk⟩ := hx
  have hbig' : ¬ (65536 : Int) < (n4 : Int) := by omega
  have hlong' : ¬ (n : Int) < 16 + (n2 : Int) + (n4 : Int) := by omega
  obtain ⟨key, hkey⟩ : ∃ x, rkey bs n2 = x := ⟨_, rfl⟩
  obtain ⟨val, hval⟩ : ∃ x, rval bs n2 n4 = x := ⟨_, rfl⟩
  have HKB : Hid (∀ w', Below w.heap.size w w' → Byt w' w.heap.size (if cap = 16 then some ad else some (ad.add 16)) n2 key) := fun w' hw => by
    have h1 := ((HY.out w' hw).cut (k := 16) (cap := cap) (by omega) hn).take (k := n2) (by omega)
    rw [show (bs.drop 16).take n2 = key from hkey] at h1
    exact h1
  have HVB : Hid (∀ w', Below w.heap.size w w' → Byt w' w.heap.size (if cap = 16 + n2 then some ad else some (ad.add (16 + n2))) n4 val) := fun w' hw => by
    have h1 := ((HY.out w' hw).cut (k := 16 + n2) (cap := cap) (by omega) hn).take (k := n4) (by omega)
    rw [show (bs.drop (16 + n2)).take n4 = val from hval] at h1
    exact h1
  have HEB : Hid (∀ w', Below w.heap.size w w' → Byt w' w.heap.size (some ad) (16 + n2 + n4) (bs.take (16 + n2 + n4))) := fun w' hw => (HY.out w' hw).take (by omega)
  have hkl : key.length = n2 := (HKB.out w (Below.refl _ _)).len
  have hvl : val.length = n4 := (HVB.out w (Below.refl _ _)).len
  rw [hkey, hval] at hr
  obtain ⟨q, hq⟩ : ∃ q, rencS 1 s o n1 n5 key val = q := ⟨_, rfl⟩
  have hC : (¬ q.2 = 0 ∧ r = none) ∨ (q.2 = 0 ∧ q.1 = bs.take (16 + n2 + n4) ∧ r = some (((n1 : Int), (n5 : Int), key, val), 16 + n2 + n4)) ∨ (q.2 = 0 ∧ ¬ q.1 = bs.take (16 + n2 + n4) ∧ r = none) := by
    rw [hq] at hr
    by_cases h1 : q.2 = 0
    · by_cases h2 : q.1 = bs.take (16 + n2 + n4)
      · exact .inr (.inl ⟨h1, h2, by rw [← hr, if_pos ⟨by omega, by omega, by omega, Prod.ext h2 h1⟩]⟩)
      · exact .inr (.inr ⟨h1, h2, by rw [← hr, if_neg (fun h => h2 (congrArg Prod.fst h.2.2.2))]⟩)
    · exact .inl ⟨h1, by rw [← hr, if_neg (fun h => h1 (congrArg Prod.snd h.2.2.2))]⟩
  have HC := Lib.hid hC
  have HQ := Lib.hid hq
  have HKL := Lib.hid (show key.length = n2 ∧ val.length = n4 from ⟨hkl, hvl⟩)
  have hs1 : IntKind.i64.wrap (16 + (n2 : Int)) = 16 + (n2 : Int) := IntWalk.i64_in _ (by omega)
  have hs2 : IntKind.i64.wrap (16 + (n2 : Int) + (n4 : Int)) = 16 + (n2 : Int) + (n4 : Int) := IntWalk.i64_in _ (by omega)
  clear hC hq hr hkey hval hkl hvl
  go_enter Tryd.func16, Tryd.ntmps16
  go_wp2_with fail
  refine (newReader_any _ _ 11 _ w.heap.size _ (HP.out _ HB0.out) (by decide) (by simp)).mono ?_
  rintro e w2 ⟨g, rfl, hrdr, hg, hbel⟩
  have hgl := hrdr.lt
  have hg' : w.heap.size < g := by have := hg; simp at this; omega
  have HB2 : Hid (Below w.heap.size w w2) := HB0.out.trans (hbel.mono HB0.out.size)
  have HR2 : Hid (Below (w.heap.size + 1) (w.alloc (.cells #[.int .i64 0, .slice none 0 0, .slice none 0 0, .int .i64 0] 26)) w2) := hbel.mono (by simp)
  have hw2 : w.heap.size < w2.heap.size := by omega
  have HRD := Lib.hid hrdr
  clear hrdr hbel
  go_wp2_with fail
  have HRS0 : Hid (RS ((w2.alloc (.cells #[.pointer (some ⟨g, 0, none⟩)] 54)).alloc (.cells #[.int .i64 0, .slice none 0 0, .slice none 0 0, .int .i64 0] 26)) ((w2.alloc (.cells #[.pointer (some ⟨g, 0, none⟩)] 54)).alloc (.cells #[.int .i64 0, .slice none 0 0, .slice none 0 0, .int .i64 0] 26)) g w2.heap.size ((bs.drop 1).take 11) 0) :=
    ⟨HRD.out.below (Below.alloc (Below.alloc (Below.refl _ _) (Nat.le_refl _) _) (by simp) _) hgl, (World.cell?_alloc_lt _ _ _ (by simp)).trans (cell_of_row _ _ _ _ _ _ (heap_alloc_new w2 _)), World.grownBy.refl _ _, rfl, by omega, by simp; omega⟩
  have HB4 : Hid (Below w.heap.size w ((w2.alloc (.cells #[.pointer (some ⟨g, 0, none⟩)] 54)).alloc (.cells #[.int .i64 0, .slice none 0 0, .slice none 0 0, .int .i64 0] 26))) := (HB2.out.alloc HB2.out.size _).alloc (by have := HB2.out.size; simp; omega) _
  have HR4 : Hid (Below (w.heap.size + 1) (w.alloc (.cells #[.int .i64 0, .slice none 0 0, .slice none 0 0, .int .i64 0] 26)) ((w2.alloc (.cells #[.pointer (some ⟨g, 0, none⟩)] 54)).alloc (.cells #[.int .i64 0, .slice none 0 0, .slice none 0 0, .int .i64 0] 26))) := (HR2.out.alloc (by omega) _).alloc (by simp; omega) _
  have HZ4 : Hid (((w2.alloc (.cells #[.pointer (some ⟨g, 0, none⟩)] 54)).alloc (.cells #[.int .i64 0, .slice none 0 0, .slice none 0 0, .int .i64 0] 26)).heap[w2.heap.size + 1]? = some (.cells #[.int .i64 0, .slice none 0 0, .slice none 0 0, .int .i64 0] 26)) := by
    have h := heap_alloc_new (w2.alloc (.cells #[.pointer (some ⟨g, 0, none⟩)] 54)) (.cells #[.int .i64 0, .slice none 0 0, .slice none 0 0, .int .i64 0] 26)
    rw [World.size_alloc] at h
    exact h
  refine (T1.out _ _ _ _ HRS0.out).mono ?_
  rintro e v1 ⟨rfl, h⟩
  have HRS1 := Lib.hid h
  clear h
  go_wp2_with fail
  refine (T2.out _ _ _ _ HRS1.out).mono ?_
  rintro e v2 ⟨rfl, h⟩
  have HRS2 := Lib.hid h
  clear h
  go_wp2_with fail
  refine (T3.out _ _ _ _ HRS2.out).mono ?_
  rintro e v3 ⟨rfl, h⟩
  have HRS3 := Lib.hid h
  clear h
  go_wp2_with fail
  refine (T4.out _ _ _ _ HRS3.out).mono ?_
  rintro e v4 ⟨rfl, h⟩
  have HRS4 := Lib.hid h
  clear h
  go_wp2_with fail
  refine (T5.out _ _ _ _ HRS4.out).mono ?_
  rintro e v5 ⟨rfl, h⟩
  have HRS5 := Lib.hid h
  clear h
  have hv5 : v5.heap.size = w2.heap.size + 1 + 1 := by have := HRS5.out.size; simpa using this
  have HB5 : Hid (Below w.heap.size w v5) := HB4.out.trans (only_below HRS5.out.grown (by omega) HB4.out.size)
  have HR5 : Hid (Below (w.heap.size + 1) (w.alloc (.cells #[.int .i64 0, .slice none 0 0, .slice none 0 0, .int .i64 0] 26)) v5) := HR4.out.trans (only_below HRS5.out.grown (by omega) (by simp; omega))
  have hrow : v5.heap[w2.heap.size + 1]? = some (.cells #[.int .i64 0, .slice none 0 0, .slice none 0 0, .int .i64 0] 26) := (HRS5.out.grown.block _ (by simp) (fun e => by injection e; omega)).trans HZ4.out
  have z0 := cell_of_row v5 (w2.heap.size + 1) 0 _ _ _ hrow
  have z1 := cell_of_row v5 (w2.heap.size + 1) 1 _ _ _ hrow
  have z2 := cell_of_row v5 (w2.heap.size + 1) 2 _ _ _ hrow
  have z3 := cell_of_row v5 (w2.heap.size + 1) 3 _ _ _ hrow
  have zf : ∀ j, v5.frozen? ⟨w2.heap.size + 1, j, none⟩ = false := fun j => frozen_of_row v5 (w2.heap.size + 1) j _ _ hrow
  change v5.cell? _ = some _ at z0 z1 z2 z3
  have zf0 := zf 0
  have zf3 := zf 3
  have ZF := Lib.hid zf
  clear hrow zf HRS0 HRS1 HRS2 HRS3 HRS4 T1 T2 T3 T4 T5 HRD HZ4
  have HK := Lib.hid (fun w' hw => (by have := HKB.out w' hw; rwa [if_neg hcap16] at this : Byt w' w.heap.size (some (ad.add 16)) n2 key))
  have HV := Lib.hid (fun w' hw => (by have := HVB.out w' hw; rwa [if_neg hcapk] at this : Byt w' w.heap.size (some (ad.add (16 + n2))) n4 val))
  go_wp2_with fail
  have hb1 : (16 : Int) + (n2 : Int) ≤ ((cap : Nat) : Int) := by omega
  have hb2 : (16 : Int) + (n2 : Int) + (n4 : Int) ≤ ((cap : Nat) : Int) := by omega
  have hb3 : (0 : Int) ≤ (n2 : Int) := by omega
  have hb4 : (0 : Int) ≤ (n4 : Int) := by omega
  have hb5 : (0 : Int) ≤ 16 + (n2 : Int) := by omega
  have hb6 : (16 : Int) ≤ 16 + (n2 : Int) := by omega
  have hb7 : (16 : Int) + (n2 : Int) ≤ 16 + (n2 : Int) + (n4 : Int) := by omega
  have hb8 : (0 : Int) ≤ 16 + (n2 : Int) + (n4 : Int) := by omega
  have hq1 : (16 + (n2 : Int)).toNat = 16 + n2 := by omega
  have hq2 : (16 + (n2 : Int) + (n4 : Int)).toNat = 16 + n2 + n4 := by omega
  have H6 := Lib.hid (rec_two (rr := w2.heap.size + 1) (ki := n1) (ex := n5) z0 z1 z2 z3 ZF.out _ rfl)
  have HB6 := Lib.hid (Below.drew (HB5.out.trans (H6.out.2.2.2 _ (by omega))))
  have H6D : Hid (BoxR ((v5.setCell ⟨w2.heap.size + 1, 0, none⟩ (.int .i64 (n1 : Int))).setCell ⟨w2.heap.size + 1, 3, none⟩ (.int .i64 (n5 : Int))).drew (w2.heap.size + 1) (n1 : Int) none 0 0 none 0 0 (n5 : Int)) := H6.out.1
  have H6F : Hid (∀ j, ((v5.setCell ⟨w2.heap.size + 1, 0, none⟩ (.int .i64 (n1 : Int))).setCell ⟨w2.heap.size + 1, 3, none⟩ (.int .i64 (n5 : Int))).drew.frozen? ⟨w2.heap.size + 1, j, none⟩ = false) := H6.out.2.1
  clear zf0 zf3
  obtain ⟨d0, d1, d2, d3⟩ := H6.out.1
  go_region_held3 (fun w' => w'.cell? ⟨w2.heap.size + 1, 0, none⟩ = some (.int .i64 (n1 : Int)) ∧ w'.cell? ⟨w2.heap.size + 1, 3, none⟩ = some (.int .i64 (n5 : Int))) (go_keep) (first
    | (go_at_call 32; refine (clone_any key (some (ad.add 16)) n2 _ w.heap.size _ (HK.out _ HB6.out) (by omega) HB6.out.size).mono ?_; rintro e v7 ⟨A7, c7, rfl, hown7, hbel7⟩; have HK7 : Hid (Own v7 v5.heap.size 5 (.slice A7 n2 c7) n2 key) := hown7.mono (Nat.le_of_eq H6.out.2.2.1.symm); have HS7 := Lib.hid (hbel7.mono (Nat.le_of_eq H6.out.2.2.1.symm)); have HB7 : Hid (Below w.heap.size w v7) := HB6.out.trans (hbel7.mono HB6.out.size); obtain ⟨x0, x1, x2, x3⟩ := BoxR.below H6D.out HS7.out (show w2.heap.size + 1 < v5.heap.size by omega); clear hown7 hbel7 HB6)
    | (go_at_call 32; refine (clone_any val (some (ad.add (16 + n2))) n4 _ w.heap.size v7 (HV.out _ HB7.out) (by omega) HB7.out.size).mono ?_; rintro e v8 ⟨A8, c8, rfl, hown8, hbel8⟩; have HLE := Lib.hid (Nat.le_trans (Nat.le_of_eq H6.out.2.2.1.symm) HS7.out.size); have HK8 := Lib.hid (HK7.out.keep hbel8); have HV8 : Hid (Own v8 v5.heap.size 5 (.slice A8 n4 c8) n4 val) := hown8.mono HLE.out; have HS8 := Lib.hid (HS7.out.trans (hbel8.mono HLE.out)); have HB8 : Hid (Below w.heap.size w v8) := HB7.out.trans (hbel8.mono HB7.out.size); have hv8 := Nat.le_trans HLE.out hbel8.size; obtain ⟨y0, y1, y2, y3⟩ := BoxR.below H6D.out HS8.out (show w2.heap.size + 1 < v5.heap.size by omega); have yf1 := (HS8.out.frozen (p := ⟨w2.heap.size + 1, 1, none⟩) (show w2.heap.size + 1 < v5.heap.size by omega)).trans (H6F.out 1); have yf2 := (HS8.out.frozen (p := ⟨w2.heap.size + 1, 2, none⟩) (show w2.heap.size + 1 < v5.heap.size by omega)).trans (H6F.out 2); have m0 : ∀ x, (v8.setCell ⟨w2.heap.size + 1, 1, none⟩ x).cell? ⟨w2.heap.size + 1, 0, none⟩ = some (.int .i64 (n1 : Int)) := fun x => (World.cell?_setCell_other _ _ _ _ (fun e => by injection e; omega)).trans y0; have m3 : ∀ x, (v8.setCell ⟨w2.heap.size + 1, 1, none⟩ x).cell? ⟨w2.heap.size + 1, 3, none⟩ = some (.int .i64 (n5 : Int)) := fun x => (World.cell?_setCell_other _ _ _ _ (fun e => by injection e; omega)).trans y3; have m4 : ∀ x y, ((v8.setCell ⟨w2.heap.size + 1, 1, none⟩ x).setCell ⟨w2.heap.size + 1, 2, none⟩ y).cell? ⟨w2.heap.size + 1, 0, none⟩ = some (.int .i64 (n1 : Int)) := fun x y => (World.cell?_setCell_other _ _ _ _ (fun e => by injection e; omega)).trans (m0 x); have m7 : ∀ x y, ((v8.setCell ⟨w2.heap.size + 1, 1, none⟩ x).setCell ⟨w2.heap.size + 1, 2, none⟩ y).cell? ⟨w2.heap.size + 1, 3, none⟩ = some (.int .i64 (n5 : Int)) := fun x y => (World.cell?_setCell_other _ _ _ _ (fun e => by injection e; omega)).trans (m3 x); clear hown8 hbel8))
  all_goals
    go_wp2_with fail
    have HST := Lib.hid (rec_stored (rr := w2.heap.size + 1) (b6 := v5.heap.size) (by omega) y0 y1 y2 y3 HK8.out HV8.out _ rfl)
    have HB9 := Lib.hid (HB8.out.trans (HST.out.2.2.2.2 _ (by omega)))
    refine (recEncode_any 1 s o n1 n5 key val A7 A8 n2 c7 n4 c8 _ _ (HT.out _ HB9.out).1 (HT.out _ HB9.out).2 HST.out.2.1.byt HST.out.2.2.1.byt (Nat.le_refl _) (by omega) (by omega) hs q HQ.out).mono ?_
    rintro e v10 ⟨A10, c10, rfl, hown, hbel⟩
    have HB10 : Hid (Below w.heap.size w v10) := HB9.out.trans (hbel.mono HB9.out.size)
    have HR8 := Lib.hid ((Below.drew (HR5.out.trans (H6.out.2.2.2 _ (by omega)))).trans (HS8.out.mono (by omega)))
    have HR9 := Lib.hid (HR8.out.trans (HST.out.2.2.2.2 _ (by omega)))
    have HR10 := Lib.hid (HR9.out.trans (hbel.mono (by rw [HST.out.2.2.2.1]; omega)))
    have HX10 := Lib.hid (HST.out.1.below hbel (by rw [HST.out.2.2.2.1]; omega))
    have HKx := Lib.hid (HST.out.2.1.keep hbel)
    have HVx := Lib.hid (HST.out.2.2.1.keep hbel)
    have HO10 := Lib.hid hown
    have hv10 : v8.heap.size ≤ v10.heap.size := by have := hbel.size; rw [HST.out.2.2.2.1] at this; exact this
    obtain ⟨l0, l1, l2, l3⟩ := HX10.out
    obtain ⟨hcc, hcf⟩ := cells_of_below HR10.out
    have hwa : w.heap.size < v10.heap.size := by omega
    have hwb : w2.heap.size + 1 < v10.heap.size := by omega
    clear hown hbel y0 y1 y2 y3 yf1 yf2
    rcases HC.out with ⟨h1, rfl⟩ | ⟨h1, h2, rfl⟩ | ⟨h1, h2, rfl⟩
    · clear HC
      go_wp2
      refine bodyPost_ret (v := .tuple #[.agg #[.int .i64 0, .slice none 0 0, .slice none 0 0, .int .i64 0], .int .i64 0, .bool false]) (by simp [results, Tryd.results16, go_sem, *]) rfl ?_
      exact ⟨rfl, (by repeat (first | with_reducible exact HB10.out | with_reducible refine Below.setCell ?_ (by first | (simp; done) | (simp; omega) | omega) _))⟩
    · have h3 := Lib.hid h2
      rw [h1]
      clear h1 h2 HC
      go_wp2_with fail
      refine (equal_any q.1 _ A10 (some ad) q.1.length _ c10 _ _ w.heap.size v10 HO10.out.byt (HEB.out _ HB10.out)).mono ?_
      rintro e w' ⟨rfl, rfl⟩
      rw [decide_eq_true h3.out]
      go_wp2
      refine bodyPost_ret (v := .tuple #[.agg #[.int .i64 (n1 : Int), .slice A7 n2 c7, .slice A8 n4 c8, .int .i64 (n5 : Int)], .int .i64 (16 + (n2 : Int) + (n4 : Int)), .bool true]) (by simp [results, Tryd.results16, go_sem, *]) rfl ?_
      simp only [RDecRes, HKL.out.1, HKL.out.2]
      refine ⟨A7, c7, A8, c8, ?_, (own_set4 HKx.out (by omega) _ _ _ _).mono (by omega), (own_set4 HVx.out (by omega) _ _ _ _).mono (by omega), (by repeat (first | with_reducible exact HB10.out | with_reducible refine Below.setCell ?_ (by first | (simp; done) | (simp; omega) | omega) _))⟩
      first | rfl | (congr 3; omega) | simp
    · have h3 := Lib.hid h2
      rw [h1]
      clear h1 h2 HC
      go_wp2_with fail
      refine (equal_any q.1 _ A10 (some ad) q.1.length _ c10 _ _ w.heap.size v10 HO10.out.byt (HEB.out _ HB10.out)).mono ?_
      rintro e w' ⟨rfl, rfl⟩
      rw [decide_eq_false h3.out]
      go_wp2
      refine bodyPost_ret (v := .tuple #[.agg #[.int .i64 0, .slice none 0 0, .slice none 0 0, .int .i64 0], .int .i64 0, .bool false]) (by simp [results, Tryd.results16, go_sem, *]) rfl ?_
      exact ⟨rfl, (by repeat (first | with_reducible exact HB10.out | with_reducible refine Below.setCell ?_ (by first | (simp; done) | (simp; omega) | omega) _))⟩

end Go.Proofs.YtcaliolcmooooaaDoor
