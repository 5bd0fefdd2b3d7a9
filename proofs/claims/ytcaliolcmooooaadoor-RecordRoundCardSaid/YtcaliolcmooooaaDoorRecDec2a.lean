/- The walk of record.Decode: version other than 1. -/
import Derived.Test.YtcaliolcmooooaaDoorRecDec
namespace Go.Proofs.YtcaliolcmooooaaDoor
open Go.RowKit

set_option maxRecDepth 100000 in
set_option maxHeartbeats 4000000 in
theorem recDec_2big (v s o : Int) (bs : List UInt8) (A : Option Addr) (n cap B : Nat) (w : World) (ht : TabAt w) (h0 : 0 < w.heap.size) (hb : Byt w B A n bs) (hn : n ≤ cap) (hcap : cap ≤ 9223372036854775807) (hB : B ≤ w.heap.size) (hs : s ≤ 9223372036854775807) (r : Option (Rcd × Nat)) (hr : rdec v s o bs = r) (h16 : ¬ n < 16) (hv1 : ¬ v = 1) (hx : 65536 < (rread v bs).2.2.2) :
    Calls Tryd.prog 16 #[.int .i64 v, .int .i64 s, .int .i64 o, .slice A n cap] w (RDecRes r w) := by
  have _u := And.intro hn (And.intro hcap hs)
  clear _u
  have hbl := hb.len
  have HT : Hid (∀ w', Below w.heap.size w w' → TabAt w' ∧ 0 < w'.heap.size) := fun w' hw => ⟨ht.below hw h0, Nat.lt_of_lt_of_le h0 hw.size⟩
  have HY : Hid (∀ w', Below w.heap.size w w' → Byt w' w.heap.size A n bs) := fun w' hw => (hb.more hB).below hw
  have HB0 : Hid (Below w.heap.size w (w.alloc (.cells #[.int .i64 0, .slice none 0 0, .slice none 0 0, .int .i64 0] 26))) := (Below.refl _ _).alloc (Nat.le_refl _) _
  have h16' : ¬ (n : Int) < 16 := by omega
  obtain ⟨ad, _, rfl, _, _, _⟩ := hb.get (show 0 < n by omega)
  have hp1 : Byt w B (some (ad.add 1)) 11 ((bs.drop 1).take 11) := by
    have h1 := (hb.cut (k := 1) (cap := cap) (by omega) hn).take (k := 11) (by omega)
    rw [if_neg (by omega)] at h1
    exact h1
  have HP : Hid (∀ w', Below w.heap.size w w' → Byt w' w.heap.size (some (ad.add 1)) 11 ((bs.drop 1).take 11)) := fun w' hw => (hp1.more hB).below hw
  have hplen : ((bs.drop 1).take 11).length = 11 := hp1.len
  obtain ⟨n1, hn1⟩ : ∃ x, num (((bs.drop 1).take 11 |>.drop 0).take 1) = x := ⟨_, rfl⟩
  obtain ⟨n2, hn2⟩ : ∃ x, num (((bs.drop 1).take 11 |>.drop 1).take 1) = x := ⟨_, rfl⟩
  obtain ⟨n3, hn3⟩ : ∃ x, num (((bs.drop 1).take 11 |>.drop 2).take 3) = x := ⟨_, rfl⟩
  obtain ⟨n4, hn4⟩ : ∃ x, num (((bs.drop 1).take 11 |>.drop 5).take 1) = x := ⟨_, rfl⟩
  obtain ⟨n5, hn5⟩ : ∃ x, num (((bs.drop 1).take 11 |>.drop 6).take 5) = x := ⟨_, rfl⟩
  have T1 := Lib.hid (fun w0 w g c hRS => rnum_any 0 1 1 n1 w0 w g c ((bs.drop 1).take 11) hRS rfl (by omega) (by decide) (by decide) hn1)
  have T2 := Lib.hid (fun w0 w g c hRS => rnum_any 1 1 2 n2 w0 w g c ((bs.drop 1).take 11) hRS rfl (by omega) (by decide) (by decide) hn2)
  have T3 := Lib.hid (fun w0 w g c hRS => rnum_any 2 3 5 n3 w0 w g c ((bs.drop 1).take 11) hRS rfl (by omega) (by decide) (by decide) hn3)
  have T4 := Lib.hid (fun w0 w g c hRS => rnum_any 5 1 6 n4 w0 w g c ((bs.drop 1).take 11) hRS rfl (by omega) (by decide) (by decide) hn4)
  have T5 := Lib.hid (fun w0 w g c hRS => rnum_any 6 5 11 n5 w0 w g c ((bs.drop 1).take 11) hRS rfl (by omega) (by decide) (by decide) hn5)
  have hl1 : n1 < 256 := by rw [← hn1]; exact take_lt1
  have hl2 : n2 < 256 := by rw [← hn2]; exact take_lt1
  have hl3 : n3 < 281474976710656 := by rw [← hn3]; exact take_lt (by decide)
  have hl4 : n4 < 256 := by rw [← hn4]; exact take_lt1
  have hl5 : n5 < 281474976710656 := by rw [← hn5]; exact take_lt (by decide)
  have en1 : n1 = num ((bs.drop 1).take 1) := by rw [← hn1, cut_cut _ 0 1 (by decide)]
  have en2 : n2 = num ((bs.drop 2).take 1) := by rw [← hn2, cut_cut _ 1 1 (by decide)]
  have en3 : n3 = num ((bs.drop 3).take 3) := by rw [← hn3, cut_cut _ 2 3 (by decide)]
  have en5 : n5 = num ((bs.drop 7).take 5) := by rw [← hn5, cut_cut _ 6 5 (by decide)]
  have hrd : rread v bs = ((n2 / 16), n5, n1, n3) := by
    unfold rread
    rw [if_neg hv1, en1, en2, en3, en5]
  clear en1 en2 en3 en5
  rw [hrd] at hx
  simp only at hx
  unfold rdec at hr
  simp only [hrd] at hr
  clear hrd hn1 hn2 hn3 hn4 hn5 hp1 hb ht h0
  obtain ⟨kk, hkk⟩ : ∃ kk, n2 / 16 = kk := ⟨_, rfl⟩
  have hkk' : (n2 : Int).tdiv 16 = (kk : Int) := by rw [← hkk]; rfl
  have hkk2 : (n2 : Int) / 16 = (kk : Int) := by omega
  rw [hkk] at hr
  have hbig' : (65536 : Int) < (n3 : Int) := by omega
  obtain rfl : r = none := by rw [← hr, if_neg]; rintro ⟨_, h1, h2, _⟩; omega
  clear hr
  go_enter Tryd.func16, Tryd.ntmps16
  go_wp2_with fail
  refine (newReader_any _ _ 11 _ w.heap.size _ (HP.out _ HB0.out) (by decide) (by simp)).mono ?_
  rintro e w2 ⟨g, rfl, hrdr, hg, hbel⟩
  have hgl := hrdr.lt
  have hg' : w.heap.size < g := by have := hg; simp at this; omega
  have HB2 : Hid (Below w.heap.size w w2) := HB0.out.trans (hbel.mono HB0.out.size)
  have HR2 : Hid (Below (w.heap.size + 1) (w.alloc (.cells #[.int .i64 0, .slice none 0 0, .slice none 0 0, .int .i64 0] 26)) w2) := hbel.mono (by simp)
  have hw2 : w.heap.size < w2.heap.size := by omega
  have HRD := Lib.hid hrdr
  clear hrdr hbel
  go_wp2_with fail
  have HRS0 : Hid (RS ((w2.alloc (.cells #[.pointer (some ⟨g, 0, none⟩)] 54)).alloc (.cells #[.int .i64 0, .slice none 0 0, .slice none 0 0, .int .i64 0] 26)) ((w2.alloc (.cells #[.pointer (some ⟨g, 0, none⟩)] 54)).alloc (.cells #[.int .i64 0, .slice none 0 0, .slice none 0 0, .int .i64 0] 26)) g w2.heap.size ((bs.drop 1).take 11) 0) :=
    ⟨HRD.out.below (Below.alloc (Below.alloc (Below.refl _ _) (Nat.le_refl _) _) (by simp) _) hgl, (World.cell?_alloc_lt _ _ _ (by simp)).trans (cell_of_row _ _ _ _ _ _ (heap_alloc_new w2 _)), World.grownBy.refl _ _, rfl, by omega, by simp; omega⟩
  have HB4 : Hid (Below w.heap.size w ((w2.alloc (.cells #[.pointer (some ⟨g, 0, none⟩)] 54)).alloc (.cells #[.int .i64 0, .slice none 0 0, .slice none 0 0, .int .i64 0] 26))) := (HB2.out.alloc HB2.out.size _).alloc (by have := HB2.out.size; simp; omega) _
  have HR4 : Hid (Below (w.heap.size + 1) (w.alloc (.cells #[.int .i64 0, .slice none 0 0, .slice none 0 0, .int .i64 0] 26)) ((w2.alloc (.cells #[.pointer (some ⟨g, 0, none⟩)] 54)).alloc (.cells #[.int .i64 0, .slice none 0 0, .slice none 0 0, .int .i64 0] 26))) := (HR2.out.alloc (by omega) _).alloc (by simp; omega) _
  have HZ4 : Hid (((w2.alloc (.cells #[.pointer (some ⟨g, 0, none⟩)] 54)).alloc (.cells #[.int .i64 0, .slice none 0 0, .slice none 0 0, .int .i64 0] 26)).heap[w2.heap.size + 1]? = some (.cells #[.int .i64 0, .slice none 0 0, .slice none 0 0, .int .i64 0] 26)) := by
    have h := heap_alloc_new (w2.alloc (.cells #[.pointer (some ⟨g, 0, none⟩)] 54)) (.cells #[.int .i64 0, .slice none 0 0, .slice none 0 0, .int .i64 0] 26)
    rw [World.size_alloc] at h
    exact h
  refine (T1.out _ _ _ _ HRS0.out).mono ?_
  rintro e v1 ⟨rfl, h⟩
  have HRS1 := Lib.hid h
  clear h
  go_wp2_with fail
  refine (T2.out _ _ _ _ HRS1.out).mono ?_
  rintro e v2 ⟨rfl, h⟩
  have HRS2 := Lib.hid h
  clear h
  go_wp2_with fail
  refine (T3.out _ _ _ _ HRS2.out).mono ?_
  rintro e v3 ⟨rfl, h⟩
  have HRS3 := Lib.hid h
  clear h
  go_wp2_with fail
  refine (T4.out _ _ _ _ HRS3.out).mono ?_
  rintro e v4 ⟨rfl, h⟩
  have HRS4 := Lib.hid h
  clear h
  go_wp2_with fail
  refine (T5.out _ _ _ _ HRS4.out).mono ?_
  rintro e v5 ⟨rfl, h⟩
  have HRS5 := Lib.hid h
  clear h
  have hv5 : v5.heap.size = w2.heap.size + 1 + 1 := by have := HRS5.out.size; simpa using this
  have HB5 : Hid (Below w.heap.size w v5) := HB4.out.trans (only_below HRS5.out.grown (by omega) HB4.out.size)
  have HR5 : Hid (Below (w.heap.size + 1) (w.alloc (.cells #[.int .i64 0, .slice none 0 0, .slice none 0 0, .int .i64 0] 26)) v5) := HR4.out.trans (only_below HRS5.out.grown (by omega) (by simp; omega))
  have hrow : v5.heap[w2.heap.size + 1]? = some (.cells #[.int .i64 0, .slice none 0 0, .slice none 0 0, .int .i64 0] 26) := (HRS5.out.grown.block _ (by simp) (fun e => by injection e; omega)).trans HZ4.out
  have z0 := cell_of_row v5 (w2.heap.size + 1) 0 _ _ _ hrow
  have z1 := cell_of_row v5 (w2.heap.size + 1) 1 _ _ _ hrow
  have z2 := cell_of_row v5 (w2.heap.size + 1) 2 _ _ _ hrow
  have z3 := cell_of_row v5 (w2.heap.size + 1) 3 _ _ _ hrow
  have zf : ∀ j, v5.frozen? ⟨w2.heap.size + 1, j, none⟩ = false := fun j => frozen_of_row v5 (w2.heap.size + 1) j _ _ hrow
  change v5.cell? _ = some _ at z0 z1 z2 z3
  have zf0 := zf 0
  have zf3 := zf 3
  have ZF := Lib.hid zf
  clear hrow zf HRS0 HRS1 HRS2 HRS3 HRS4 T1 T2 T3 T4 T5 HRD HZ4
  obtain ⟨hcc, hcf⟩ := cells_of_below HR5.out
  go_wp2
  refine bodyPost_ret (v := .tuple #[.agg #[.int .i64 0, .slice none 0 0, .slice none 0 0, .int .i64 0], .int .i64 0, .bool false]) (by simp [results, Tryd.results16, go_sem, *]) rfl ?_
  exact ⟨rfl, (by repeat (first | with_reducible exact HB5.out | with_reducible refine Below.setCell ?_ (by first | (simp; done) | (simp; omega) | omega) _))⟩

set_option maxRecDepth 100000 in
set_option maxHeartbeats 4000000 in
theorem recDec_2long (v s o : Int) (bs : List UInt8) (A : Option Addr) (n cap B : Nat) (w : World) (ht : TabAt w) (h0 : 0 < w.heap.size) (hb : Byt w B A n bs) (hn : n ≤ cap) (hcap : cap ≤ 9223372036854775807) (hB : B ≤ w.heap.size) (hs : s ≤ 9223372036854775807) (r : Option (Rcd × Nat)) (hr : rdec v s o bs = r) (h16 : ¬ n < 16) (hv1 : ¬ v = 1) (hx : ¬ 65536 < (rread v bs).2.2.2 ∧ n < 16 + (rread v bs).2.2.1 + (rread v bs).2.2.2) :
    Calls Tryd.prog 16 #[.int .i64 v, .int .i64 s, .int .i64 o, .slice A n cap] w (RDecRes r w) := by
  have _u := And.intro hn (And.intro hcap hs)
  clear _u
  have hbl := hb.len
  have HT : Hid (∀ w', Below w.heap.size w w' → TabAt w' ∧ 0 < w'.heap.size) := fun w' hw => ⟨ht.below hw h0, Nat.lt_of_lt_of_le h0 hw.size⟩
  have HY : Hid (∀ w', Below w.heap.size w w' → Byt w' w.heap.size A n bs) := fun w' hw => (hb.more hB).below hw
  have HB0 : Hid (Below w.heap.size w (w.alloc (.cells #[.int .i64 0, .slice none 0 0, .slice none 0 0, .int .i64 0] 26))) := (Below.refl _ _).alloc (Nat.le_refl _) _
  have h16' : ¬ (n : Int) < 16 := by omega
  obtain ⟨ad, _, rfl, _, _, _⟩ := hb.get (show 0 < n by omega)
  have hp1 : Byt w B (some (ad.add 1)) 11 ((bs.drop 1).take 11) := by
    have h1 := (hb.cut (k := 1) (cap := cap) (by omega) hn).take (k := 11) (by omega)
    rw [if_neg (by omega)] at h1
    exact h1
  have HP : Hid (∀ w', Below w.heap.size w w' → Byt w' w.heap.size (some (ad.add 1)) 11 ((bs.drop 1).take 11)) := fun w' hw => (hp1.more hB).below hw
  have hplen : ((bs.drop 1).take 11).length = 11 := hp1.len
  obtain ⟨n1, hn1⟩ : ∃ x, num (((bs.drop 1).take 11 |>.drop 0).take 1) = x := ⟨_, rfl⟩
  obtain ⟨n2, hn2⟩ : ∃ x, num (((bs.drop 1).take 11 |>.drop 1).take 1) = x := ⟨_, rfl⟩
  obtain ⟨n3, hn3⟩ : ∃ x, num (((bs.drop 1).take 11 |>.drop 2).take 3) = x := ⟨_, rfl⟩
  obtain ⟨n4, hn4⟩ : ∃ x, num (((bs.drop 1).take 11 |>.drop 5).take 1) = x := ⟨_, rfl⟩
  obtain ⟨n5, hn5⟩ : ∃ x, num (((bs.drop 1).take 11 |>.drop 6).take 5) = x := ⟨_, rfl⟩
  have T1 := Lib.hid (fun w0 w g c hRS => rnum_any 0 1 1 n1 w0 w g c ((bs.drop 1).take 11) hRS rfl (by omega) (by decide) (by decide) hn1)
  have T2 := Lib.hid (fun w0 w g c hRS => rnum_any 1 1 2 n2 w0 w g c ((bs.drop 1).take 11) hRS rfl (by omega) (by decide) (by decide) hn2)
  have T3 := Lib.hid (fun w0 w g c hRS => rnum_any 2 3 5 n3 w0 w g c ((bs.drop 1).take 11) hRS rfl (by omega) (by decide) (by decide) hn3)
  have T4 := Lib.hid (fun w0 w g c hRS => rnum_any 5 1 6 n4 w0 w g c ((bs.drop 1).take 11) hRS rfl (by omega) (by decide) (by decide) hn4)
  have T5 := Lib.hid (fun w0 w g c hRS => rnum_any 6 5 11 n5 w0 w g c ((bs.drop 1).take 11) hRS rfl (by omega) (by decide) (by decide) hn5)
  have hl1 : n1 < 256 := by rw [← hn1]; exact take_lt1
  have hl2 : n2 < 256 := by rw [← hn2]; exact take_lt1
  have hl3 : n3 < 281474976710656 := by rw [← hn3]; exact take_lt (by decide)
  have hl4 : n4 < 256 := by rw [← hn4]; exact take_lt1
  have hl5 : n5 < 281474976710656 := by rw [← hn5]; exact take_lt (by decide)
  have en1 : n1 = num ((bs.drop 1).take 1) := by rw [← hn1, cut_cut _ 0 1 (by decide)]
  have en2 : n2 = num ((bs.drop 2).take 1) := by rw [← hn2, cut_cut _ 1 1 (by decide)]
  have en3 : n3 = num ((bs.drop 3).take 3) := by rw [← hn3, cut_cut _ 2 3 (by decide)]
  have en5 : n5 = num ((bs.drop 7).take 5) := by rw [← hn5, cut_cut _ 6 5 (by decide)]
  have hrd : rread v bs = ((n2 / 16), n5, n1, n3) := by
    unfold rread
    rw [if_neg hv1, en1, en2, en3, en5]
  clear en1 en2 en3 en5
  rw [hrd] at hx
  simp only at hx
  unfold rdec at hr
  simp only [hrd] at hr
  clear hrd hn1 hn2 hn3 hn4 hn5 hp1 hb ht h0
  obtain ⟨kk, hkk⟩ : ∃ kk, n2 / 16 = kk := ⟨_, rfl⟩
  have hkk' : (n2 : Int).tdiv 16 = (kk : Int) := by rw [← hkk]; rfl
  have hkk2 : (n2 : Int) / 16 = (kk : Int) := by omega
  rw [hkk] at hr
  obtain ⟨hbig, hlong⟩ := hx
  have hbig' : ¬ (65536 : Int) < (n3 : Int) := by omega
  have hlong' : (n : Int) < 16 + (n1 : Int) + (n3 : Int) := by omega
  obtain rfl : r = none := by rw [← hr, if_neg]; rintro ⟨_, h1, h2, _⟩; omega
  clear hr
  go_enter Tryd.func16, Tryd.ntmps16
  go_wp2_with fail
  refine (newReader_any _ _ 11 _ w.heap.size _ (HP.out _ HB0.out) (by decide) (by simp)).mono ?_
  rintro e w2 ⟨g, rfl, hrdr, hg, hbel⟩
  have hgl := hrdr.lt
  have hg' : w.heap.size < g := by have := hg; simp at this; omega
  have HB2 : Hid (Below w.heap.size w w2) := HB0.out.trans (hbel.mono HB0.out.size)
  have HR2 : Hid (Below (w.heap.size + 1) (w.alloc (.cells #[.int .i64 0, .slice none 0 0, .slice none 0 0, .int .i64 0] 26)) w2) := hbel.mono (by simp)
  have hw2 : w.heap.size < w2.heap.size := by omega
  have HRD := Lib.hid hrdr
  clear hrdr hbel
  go_wp2_with fail
  have HRS0 : Hid (RS ((w2.alloc (.cells #[.pointer (some ⟨g, 0, none⟩)] 54)).alloc (.cells #[.int .i64 0, .slice none 0 0, .slice none 0 0, .int .i64 0] 26)) ((w2.alloc (.cells #[.pointer (some ⟨g, 0, none⟩)] 54)).alloc (.cells #[.int .i64 0, .slice none 0 0, .slice none 0 0, .int .i64 0] 26)) g w2.heap.size ((bs.drop 1).take 11) 0) :=
    ⟨HRD.out.below (Below.alloc (Below.alloc (Below.refl _ _) (Nat.le_refl _) _) (by simp) _) hgl, (World.cell?_alloc_lt _ _ _ (by simp)).trans (cell_of_row _ _ _ _ _ _ (heap_alloc_new w2 _)), World.grownBy.refl _ _, rfl, by omega, by simp; omega⟩
  have HB4 : Hid (Below w.heap.size w ((w2.alloc (.cells #[.pointer (some ⟨g, 0, none⟩)] 54)).alloc (.cells #[.int .i64 0, .slice none 0 0, .slice none 0 0, .int .i64 0] 26))) := (HB2.out.alloc HB2.out.size _).alloc (by have := HB2.out.size; simp; omega) _
  have HR4 : Hid (Below (w.heap.size + 1) (w.alloc (.cells #[.int .i64 0, .slice none 0 0, .slice none 0 0, .int .i64 0] 26)) ((w2.alloc (.cells #[.pointer (some ⟨g, 0, none⟩)] 54)).alloc (.cells #[.int .i64 0, .slice none 0 0, .slice none 0 0, .int .i64 0] 26))) := (HR2.out.alloc (by omega) _).alloc (by simp; omega) _
  have HZ4 : Hid (((w2.alloc (.cells #[.pointer (some ⟨g, 0, none⟩)] 54)).alloc (.cells #[.int .i64 0, .slice none 0 0, .slice none 0 0, .int .i64 0] 26)).heap[w2.heap.size + 1]? = some (.cells #[.int .i64 0, .slice none 0 0, .slice none 0 0, .int .i64 0] 26)) := by
    have h := heap_alloc_new (w2.alloc (.cells #[.pointer (some ⟨g, 0, none⟩)] 54)) (.cells #[.int .i64 0, .slice none 0 0, .slice none 0 0, .int .i64 0] 26)
    rw [World.size_alloc] at h
    exact h
  refine (T1.out _ _ _ _ HRS0.out).mono ?_
  rintro e v1 ⟨rfl, h⟩
  have HRS1 := Lib.hid h
  clear h
  go_wp2_with fail
  refine (T2.out _ _ _ _ HRS1.out).mono ?_
  rintro e v2 ⟨rfl, h⟩
  have HRS2 := Lib.hid h
  clear h
  go_wp2_with fail
  refine (T3.out _ _ _ _ HRS2.out).mono ?_
  rintro e v3 ⟨rfl, h⟩
  have HRS3 := Lib.hid h
  clear h
  go_wp2_with fail
  refine (T4.out _ _ _ _ HRS3.out).mono ?_
  rintro e v4 ⟨rfl, h⟩
  have HRS4 := Lib.hid h
  clear h
  go_wp2_with fail
  refine (T5.out _ _ _ _ HRS4.out).mono ?_
  rintro e v5 ⟨rfl, h⟩
  have HRS5 := Lib.hid h
  clear h
  have hv5 : v5.heap.size = w2.heap.size + 1 + 1 := by have := HRS5.out.size; simpa using this
  have HB5 : Hid (Below w.heap.size w v5) := HB4.out.trans (only_below HRS5.out.grown (by omega) HB4.out.size)
  have HR5 : Hid (Below (w.heap.size + 1) (w.alloc (.cells #[.int .i64 0, .slice none 0 0, .slice none 0 0, .int .i64 0] 26)) v5) := HR4.out.trans (only_below HRS5.out.grown (by omega) (by simp; omega))
  have hrow : v5.heap[w2.heap.size + 1]? = some (.cells #[.int .i64 0, .slice none 0 0, .slice none 0 0, .int .i64 0] 26) := (HRS5.out.grown.block _ (by simp) (fun e => by injection e; omega)).trans HZ4.out
  have z0 := cell_of_row v5 (w2.heap.size + 1) 0 _ _ _ hrow
  have z1 := cell_of_row v5 (w2.heap.size + 1) 1 _ _ _ hrow
  have z2 := cell_of_row v5 (w2.heap.size + 1) 2 _ _ _ hrow
  have z3 := cell_of_row v5 (w2.heap.size + 1) 3 _ _ _ hrow
  have zf : ∀ j, v5.frozen? ⟨w2.heap.size + 1, j, none⟩ = false := fun j => frozen_of_row v5 (w2.heap.size + 1) j _ _ hrow
  change v5.cell? _ = some _ at z0 z1 z2 z3
  have zf0 := zf 0
  have zf3 := zf 3
  have ZF := Lib.hid zf
  clear hrow zf HRS0 HRS1 HRS2 HRS3 HRS4 T1 T2 T3 T4 T5 HRD HZ4
  obtain ⟨hcc, hcf⟩ := cells_of_below HR5.out
  go_wp2
  refine bodyPost_ret (v := .tuple #[.agg #[.int .i64 0, .slice none 0 0, .slice none 0 0, .int .i64 0], .int .i64 0, .bool false]) (by simp [results, Tryd.results16, go_sem, *]) rfl ?_
  exact ⟨rfl, (by repeat (first | with_reducible exact HB5.out | with_reducible refine Below.setCell ?_ (by first | (simp; done) | (simp; omega) | omega) _))⟩

end Go.Proofs.YtcaliolcmooooaaDoor
