/- The walk of header.Decode. -/
import Derived.Test.YtepbchaeeldjmaaDoorHeaderRef
import Derived.Test.YtepbchaeeldjmaaDoorReader2
namespace Go.Proofs.YtepbchaeeldjmaaDoor
open Go.RowKit

theorem cells_of_below {W w1 : World} {B : Nat} (hb : Below B W w1) : (∀ b o, b < B → w1.cell? ⟨b, o, none⟩ = W.cell? ⟨b, o, none⟩) ∧ (∀ b o, b < B → w1.frozen? ⟨b, o, none⟩ = W.frozen? ⟨b, o, none⟩) :=
  ⟨fun b o h => hb.cell (p := ⟨b, o, none⟩) h, fun b o h => hb.frozen (p := ⟨b, o, none⟩) h⟩

/-- Block c holds the reader g, which is at place k of p; since w0 only g has changed. -/
structure RS (w0 w : World) (g c : Nat) (p : List UInt8) (k : Nat) : Prop where
  rdr : Rdr w g (p.drop k) false
  ptr : w.cell? ⟨c, 0, none⟩ = some (.pointer (some ⟨g, 0, none⟩))
  grown : w0.grownBy w (some g)
  size : w.heap.size = w0.heap.size
  ne : c ≠ g
  lt : c < w0.heap.size
theorem RS.next {w0 w w' : World} {g c k k' : Nat} {p : List UInt8} (h : RS w0 w g c p k) (hr : Rdr w' g (p.drop k') false) (hg : w.grownBy w' (some g)) (hs : w'.heap.size = w.heap.size) : RS w0 w' g c p k' :=
  ⟨hr, (World.cell?_of_block (hg.block c (by have := h.size; have := h.lt; omega) (fun e => h.ne (Option.some.inj e)))).trans h.ptr, only_trans h.grown hg, hs.trans h.size, h.ne, h.lt⟩

theorem take_lt {p : List UInt8} {k m : Nat} (h6 : m ≤ 6) : num ((p.drop k).take m) < 281474976710656 := by
  have h1 := num_lt ((p.drop k).take m)
  have h2 : ((p.drop k).take m).length ≤ 6 := by rw [List.length_take]; omega
  have h3 : 256 ^ ((p.drop k).take m).length ≤ 256 ^ 6 := Nat.pow_le_pow_right (by decide) h2
  have h4 : (256 : Nat) ^ 6 = 281474976710656 := by decide
  omega

set_option maxHeartbeats 400000 in
theorem hnum_any (k m k' n : Nat) (w0 w : World) (g c : Nat) (p : List UInt8) (hRS : RS w0 w g c p k) (hk : k + m = k') (hl : k' ≤ p.length) (h1 : 1 ≤ m) (h6 : m ≤ 6) (hn : num ((p.drop k).take m) = n) :
    Calls Tryd.prog 36 #[.int .i64 (m : Int), .pointer (some ⟨c, 0, none⟩)] w fun e w' => e = .returned (.int .i64 (n : Int)) ∧ RS w0 w' g c p k' := by
  have hlt : n < 281474976710656 := by rw [← hn]; exact take_lt h6
  have T := num_ok g m (p.drop k) w hRS.rdr (by rw [List.length_drop]; omega) h1 (by omega)
  rw [hn, List.drop_drop, hk] at T
  have T := Lib.hid T
  have hp := hRS.ptr
  have HRS := Lib.hid hRS
  clear hRS hn
  go_enter Tryd.func36, Tryd.ntmps36
  go_wp2_with fail
  refine T.out.mono ?_
  rintro e w1 ⟨rfl, hr, hg, hs⟩
  have HX := Lib.hid (HRS.out.next hr hg hs)
  clear hr hg hs hp
  go_wp2
  go_ret
  exact ⟨rfl, HX.out⟩

def hagg (h : Hdr) : Value := .agg #[.int .i64 h.1, .int .i64 h.2.1, .int .i64 h.2.2.1, .int .i64 h.2.2.2.1, .int .i64 h.2.2.2.2.1, .int .i64 h.2.2.2.2.2]
/-- What Decode leaves. -/
def HDecRes (r : Option Hdr) (w : World) (e : Ending) (w' : World) : Prop :=
  e = .returned (.tuple #[hagg (r.getD (0, 0, 0, 0, 0, 0)), .bool r.isSome]) ∧ Below w.heap.size w w'

set_option maxHeartbeats 1000000 in
theorem hdecode_any (t : Int) (bs : List UInt8) (A : Option Addr) (n cap B : Nat) (w : World) (ht : TabAt w) (h0 : 0 < w.heap.size) (hb : Byt w B A n bs) (hn : n ≤ cap) (hcap : cap ≤ 9223372036854775807) (hB : B ≤ w.heap.size) (r : Option Hdr) (hr : hdec t bs = r) :
    Calls Tryd.prog 23 #[.slice A n cap, .int .i64 t] w (HDecRes r w) := by
  have HT : Hid (∀ w', Below w.heap.size w w' → TabAt w' ∧ 0 < w'.heap.size) := fun w' hw => ⟨ht.below hw h0, Nat.lt_of_lt_of_le h0 hw.size⟩
  have HY : Hid (∀ w', Below w.heap.size w w' → Byt w' w.heap.size A n bs) := fun w' hw => (hb.more hB).below hw
  have HB0 : Hid (∀ o, Below w.heap.size w (w.alloc o)) := fun o => (Below.refl _ _).alloc (Nat.le_refl _) _
  clear hb ht h0 hB
  cases hd : dec 1 0 t bs with
  | none =>
    obtain rfl : r = none := by rw [← hr, hdec_none hd]
    have HD := Lib.hid hd
    clear hr hd
    go_enter Tryd.func23, Tryd.ntmps23
    go_wp2_with fail
    refine (decode_any 1 0 t bs A n cap w.heap.size _ (HT.out _ (HB0.out _)).1 (HT.out _ (HB0.out _)).2 (HY.out _ (HB0.out _)) hn hcap (by simp) (by decide) none HD.out).mono ?_
    rintro e w1 ⟨A1, c1, rfl, hown, hbel⟩
    obtain ⟨hcc, hcf⟩ := cells_of_below hbel
    have HB1 : Hid (Below w.heap.size w w1) := (HB0.out _).trans (hbel.mono (by simp))
    have hw1 : w.heap.size < w1.heap.size := by have := hbel.size; simp at this; omega
    simp only [Option.getD_none, Option.isSome_none, List.length_nil]
    clear hown hbel
    go_wp2
    refine bodyPost_ret (v := .tuple #[.agg #[.int .i64 0, .int .i64 0, .int .i64 0, .int .i64 0, .int .i64 0, .int .i64 0], .bool false]) (by simp [results, Tryd.results23, go_sem, *]) rfl ?_
    exact ⟨rfl, (by repeat (first | with_reducible exact HB1.out | with_reducible refine Below.setCell ?_ (by first | (simp; done) | (simp; omega) | omega) _))⟩
  | some p =>
    have hpl : p.length = 59 := by obtain ⟨_, hl, rfl, _⟩ := dec_some hd; exact pay_len hl
    have hmay := (dec_some hd).1
    have h64 : n = 64 := by rw [← (HY.out w (Below.refl _ _)).len]; exact (dec_some hd).2.1
    obtain ⟨n1, hn1⟩ : ∃ x, num ((p.drop 0).take 1) = x := ⟨_, rfl⟩
    obtain ⟨n2, hn2⟩ : ∃ x, num ((p.drop 1).take 1) = x := ⟨_, rfl⟩
    obtain ⟨n3, hn3⟩ : ∃ x, num ((p.drop 2).take 4) = x := ⟨_, rfl⟩
    obtain ⟨n4, hn4⟩ : ∃ x, num ((p.drop 6).take 6) = x := ⟨_, rfl⟩
    obtain ⟨n5, hn5⟩ : ∃ x, num ((p.drop 12).take 6) = x := ⟨_, rfl⟩
    obtain ⟨n6, hn6⟩ : ∃ x, num ((p.drop 18).take 5) = x := ⟨_, rfl⟩
    have hrd : hread p = ((n1 : Int), (n2 : Int), (n3 : Int), (n4 : Int), (n5 : Int), (n6 : Int)) := by rw [← hn1, ← hn2, ← hn3, ← hn4, ← hn5, ← hn6]; rfl
    have T1 := Lib.hid (fun w0 w g c hRS => hnum_any 0 1 1 n1 w0 w g c p hRS rfl (by omega) (by decide) (by decide) hn1)
    have T2 := Lib.hid (fun w0 w g c hRS => hnum_any 1 1 2 n2 w0 w g c p hRS rfl (by omega) (by decide) (by decide) hn2)
    have T3 := Lib.hid (fun w0 w g c hRS => hnum_any 2 4 6 n3 w0 w g c p hRS rfl (by omega) (by decide) (by decide) hn3)
    have T4 := Lib.hid (fun w0 w g c hRS => hnum_any 6 6 12 n4 w0 w g c p hRS rfl (by omega) (by decide) (by decide) hn4)
    have T5 := Lib.hid (fun w0 w g c hRS => hnum_any 12 6 18 n5 w0 w g c p hRS rfl (by omega) (by decide) (by decide) hn5)
    have T6 := Lib.hid (fun w0 w g c hRS => hnum_any 18 5 23 n6 w0 w g c p hRS rfl (by omega) (by decide) (by decide) hn6)
    rw [hdec_some hd, hrd] at hr
    have hC : (hencS ((n1 : Int), (n2 : Int), (n3 : Int), (n4 : Int), (n5 : Int), (n6 : Int)) t = ([], 4) ∧ r = none) ∨ (hencS ((n1 : Int), (n2 : Int), (n3 : Int), (n4 : Int), (n5 : Int), (n6 : Int)) t = (hencF ((n1 : Int), (n2 : Int), (n3 : Int), (n4 : Int), (n5 : Int), (n6 : Int)) t, 0) ∧ hencF ((n1 : Int), (n2 : Int), (n3 : Int), (n4 : Int), (n5 : Int), (n6 : Int)) t = bs ∧ r = some ((n1 : Int), (n2 : Int), (n3 : Int), (n4 : Int), (n5 : Int), (n6 : Int))) ∨ (hencS ((n1 : Int), (n2 : Int), (n3 : Int), (n4 : Int), (n5 : Int), (n6 : Int)) t = (hencF ((n1 : Int), (n2 : Int), (n3 : Int), (n4 : Int), (n5 : Int), (n6 : Int)) t, 0) ∧ hencF ((n1 : Int), (n2 : Int), (n3 : Int), (n4 : Int), (n5 : Int), (n6 : Int)) t ≠ bs ∧ r = none) := by
      cases hv : hvalid ((n1 : Int), (n2 : Int), (n3 : Int), (n4 : Int), (n5 : Int), (n6 : Int))
      · exact .inl ⟨hencS_bad hv, by rw [← hr, if_neg (by rw [hv]; simp)]⟩
      · by_cases he : hencF ((n1 : Int), (n2 : Int), (n3 : Int), (n4 : Int), (n5 : Int), (n6 : Int)) t = bs
        · exact .inr (.inl ⟨hencS_ok hv hmay, he, by rw [← hr, if_pos ⟨hv, he⟩]⟩)
        · exact .inr (.inr ⟨hencS_ok hv hmay, he, by rw [← hr, if_neg (fun h => he h.2)]⟩)
    have HC := Lib.hid hC
    have HD := Lib.hid hd
    have HPL := Lib.hid hpl
    clear hC hr hd hrd hpl hmay hn1 hn2 hn3 hn4 hn5 hn6
    subst h64
    go_enter Tryd.func23, Tryd.ntmps23
    go_wp2_with fail
    refine (decode_any 1 0 t bs A 64 cap w.heap.size _ (HT.out _ (HB0.out _)).1 (HT.out _ (HB0.out _)).2 (HY.out _ (HB0.out _)) hn hcap (by simp) (by decide) (some p) HD.out).mono ?_
    rintro e w1 ⟨A1, c1, rfl, hown, hbel⟩
    simp only [Option.getD_some, Option.isSome_some, HPL.out] at hown ⊢
    have HB1 : Hid (Below w.heap.size w w1) := (HB0.out _).trans (hbel.mono (by simp))
    have HR1 : Hid (Below (w.heap.size + 1) (w.alloc (.cells #[.int .i64 0, .int .i64 0, .int .i64 0, .int .i64 0, .int .i64 0, .int .i64 0] 41)) w1) := hbel.mono (by simp)
    have hw1 : w.heap.size < w1.heap.size := by have := hbel.size; simp at this; omega
    have HO1 := Lib.hid hown
    clear hown hbel
    go_wp2_with fail
    refine (newReader_any p A1 59 c1 w1.heap.size w1 HO1.out.byt (by decide) (Nat.le_refl _)).mono ?_
    rintro e w2 ⟨g, rfl, hrdr, hg, hbel⟩
    have hgl := hrdr.lt
    have HB2 := Lib.hid (HB1.out.trans (hbel.mono HB1.out.size))
    have HR2 := Lib.hid (HR1.out.trans (hbel.mono hw1))
    have hw2 : w.heap.size < w2.heap.size := Nat.lt_of_lt_of_le hw1 hbel.size
    have HRD := Lib.hid hrdr
    clear hrdr hbel HO1
    go_wp2_with fail
    have HB3 := Lib.hid (HB2.out.alloc HB2.out.size (.cells #[.pointer (some ⟨g, 0, none⟩)] 59))
    have HR3 := Lib.hid (HR2.out.alloc hw2 (.cells #[.pointer (some ⟨g, 0, none⟩)] 59))
    have HRS0 : Hid (RS (w2.alloc (.cells #[.pointer (some ⟨g, 0, none⟩)] 59)) (w2.alloc (.cells #[.pointer (some ⟨g, 0, none⟩)] 59)) g w2.heap.size p 0) :=
      ⟨HRD.out.below (Below.alloc (Below.refl _ _) (Nat.le_refl _) _) hgl, cell_of_row _ _ _ _ _ _ (heap_alloc_new w2 _), World.grownBy.refl _ _, rfl, by omega, by simp⟩
    refine (T1.out _ _ _ _ HRS0.out).mono ?_
    rintro e v1 ⟨rfl, h⟩
    have HRS1 := Lib.hid h
    clear h
    go_wp2_with fail
    refine (T2.out _ _ _ _ HRS1.out).mono ?_
    rintro e v2 ⟨rfl, h⟩
    have HRS2 := Lib.hid h
    clear h
    go_wp2_with fail
    refine (T3.out _ _ _ _ HRS2.out).mono ?_
    rintro e v3 ⟨rfl, h⟩
    have HRS3 := Lib.hid h
    clear h
    go_wp2_with fail
    refine (T4.out _ _ _ _ HRS3.out).mono ?_
    rintro e v4 ⟨rfl, h⟩
    have HRS4 := Lib.hid h
    clear h
    go_wp2_with fail
    refine (T5.out _ _ _ _ HRS4.out).mono ?_
    rintro e v5 ⟨rfl, h⟩
    have HRS5 := Lib.hid h
    clear h
    go_wp2_with fail
    refine (T6.out _ _ _ _ HRS5.out).mono ?_
    rintro e v6 ⟨rfl, h⟩
    have HRS6 := Lib.hid h
    clear h
    go_wp2_with fail
    have hv6 : w2.heap.size + 1 = v6.heap.size := by have := HRS6.out.size; simp at this; omega
    have HB4 : Hid (Below w.heap.size w v6) := HB3.out.trans (only_below HRS6.out.grown (by omega) HB3.out.size)
    have HR4 : Hid (Below (w.heap.size + 1) _ v6) := HR3.out.trans (only_below HRS6.out.grown (by omega) (by simp; omega))
    have hw4 : w.heap.size < v6.heap.size := by omega
    have HB5 := Lib.hid (HB4.out.alloc HB4.out.size (.cells #[.int .i64 (n1 : Int), .int .i64 (n2 : Int), .int .i64 (n3 : Int), .int .i64 (n4 : Int), .int .i64 (n5 : Int), .int .i64 (n6 : Int)] 41))
    have HR5 := Lib.hid (HR4.out.alloc hw4 (.cells #[.int .i64 (n1 : Int), .int .i64 (n2 : Int), .int .i64 (n3 : Int), .int .i64 (n4 : Int), .int .i64 (n5 : Int), .int .i64 (n6 : Int)] 41))
    have HX := Lib.hid (Box6.new v6 41 (n1 : Int) n2 n3 n4 n5 n6)
    clear HRS0 HRS1 HRS2 HRS3 HRS4 HRS5 HRS6 T1 T2 T3 T4 T5 T6 HRD
    rcases HC.out with ⟨h1, rfl⟩ | ⟨h1, h2, rfl⟩ | ⟨h1, h2, rfl⟩
    · refine (hencode_any n1 n2 n3 n4 n5 n6 t _ (HT.out _ HB5.out).1 (HT.out _ HB5.out).2 ([], 4) h1).mono ?_
      rintro e w5 ⟨A5, c5, rfl, hown, hbel⟩
      have HB6 := Lib.hid (HB5.out.trans (hbel.mono HB5.out.size))
      obtain ⟨hcc, hcf⟩ := cells_of_below (HR5.out.trans (hbel.mono (by simp; omega)))
      obtain ⟨l0, l1, l2, l3, l4, l5⟩ := HX.out.below hbel (by simp)
      have hw5 : v6.heap.size < w5.heap.size := by have := hbel.size; simp at this; omega
      have hw6 : w.heap.size < w5.heap.size := by omega
      clear hown hbel h1 HC
      go_wp2
      refine bodyPost_ret (v := .tuple #[.agg #[.int .i64 0, .int .i64 0, .int .i64 0, .int .i64 0, .int .i64 0, .int .i64 0], .bool false]) (by simp [results, Tryd.results23, go_sem, *]) rfl ?_
      exact ⟨rfl, (by repeat (first | with_reducible exact HB6.out | with_reducible refine Below.setCell ?_ (by first | (simp; done) | (simp; omega) | omega) _))⟩
    · refine (hencode_any n1 n2 n3 n4 n5 n6 t _ (HT.out _ HB5.out).1 (HT.out _ HB5.out).2 (hencF ((n1 : Int), (n2 : Int), (n3 : Int), (n4 : Int), (n5 : Int), (n6 : Int)) t, 0) h1).mono ?_
      rintro e w5 ⟨A5, c5, rfl, hown, hbel⟩
      have HB6 := Lib.hid (HB5.out.trans (hbel.mono HB5.out.size))
      obtain ⟨hcc, hcf⟩ := cells_of_below (HR5.out.trans (hbel.mono (by simp; omega)))
      obtain ⟨l0, l1, l2, l3, l4, l5⟩ := HX.out.below hbel (by simp)
      have hw5 : v6.heap.size < w5.heap.size := by have := hbel.size; simp at this; omega
      have hw6 : w.heap.size < w5.heap.size := by omega
      have HO5 := Lib.hid hown
      have h3 := Lib.hid h2
      clear hown hbel h1 h2 HC
      go_wp2_with fail
      refine (equal_any (hencF ((n1 : Int), (n2 : Int), (n3 : Int), (n4 : Int), (n5 : Int), (n6 : Int)) t) bs A5 A (hencF ((n1 : Int), (n2 : Int), (n3 : Int), (n4 : Int), (n5 : Int), (n6 : Int)) t).length 64 c5 cap _ w.heap.size w5 HO5.out.byt (HY.out _ HB6.out)).mono ?_
      rintro e w' ⟨rfl, rfl⟩
      rw [decide_eq_true h3.out]
      go_wp2
      refine bodyPost_ret (v := .tuple #[.agg #[.int .i64 n1, .int .i64 n2, .int .i64 n3, .int .i64 n4, .int .i64 n5, .int .i64 n6], .bool true]) (by simp [results, Tryd.results23, go_sem, *]) rfl ?_
      exact ⟨rfl, (by repeat (first | with_reducible exact HB6.out | with_reducible refine Below.setCell ?_ (by first | (simp; done) | (simp; omega) | omega) _))⟩
    · refine (hencode_any n1 n2 n3 n4 n5 n6 t _ (HT.out _ HB5.out).1 (HT.out _ HB5.out).2 (hencF ((n1 : Int), (n2 : Int), (n3 : Int), (n4 : Int), (n5 : Int), (n6 : Int)) t, 0) h1).mono ?_
      rintro e w5 ⟨A5, c5, rfl, hown, hbel⟩
      have HB6 := Lib.hid (HB5.out.trans (hbel.mono HB5.out.size))
      obtain ⟨hcc, hcf⟩ := cells_of_below (HR5.out.trans (hbel.mono (by simp; omega)))
      obtain ⟨l0, l1, l2, l3, l4, l5⟩ := HX.out.below hbel (by simp)
      have hw5 : v6.heap.size < w5.heap.size := by have := hbel.size; simp at this; omega
      have hw6 : w.heap.size < w5.heap.size := by omega
      have HO5 := Lib.hid hown
      have h3 := Lib.hid h2
      clear hown hbel h1 h2 HC
      go_wp2_with fail
      refine (equal_any (hencF ((n1 : Int), (n2 : Int), (n3 : Int), (n4 : Int), (n5 : Int), (n6 : Int)) t) bs A5 A (hencF ((n1 : Int), (n2 : Int), (n3 : Int), (n4 : Int), (n5 : Int), (n6 : Int)) t).length 64 c5 cap _ w.heap.size w5 HO5.out.byt (HY.out _ HB6.out)).mono ?_
      rintro e w' ⟨rfl, rfl⟩
      rw [decide_eq_false h3.out]
      go_wp2
      refine bodyPost_ret (v := .tuple #[.agg #[.int .i64 0, .int .i64 0, .int .i64 0, .int .i64 0, .int .i64 0, .int .i64 0], .bool false]) (by simp [results, Tryd.results23, go_sem, *]) rfl ?_
      exact ⟨rfl, (by repeat (first | with_reducible exact HB6.out | with_reducible refine Below.setCell ?_ (by first | (simp; done) | (simp; omega) | omega) _))⟩
end Go.Proofs.YtepbchaeeldjmaaDoor
