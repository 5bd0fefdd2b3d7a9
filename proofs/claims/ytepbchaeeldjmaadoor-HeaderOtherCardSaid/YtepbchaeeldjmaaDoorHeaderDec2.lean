/- The walk of the reference's Decode of headers. -/
import Derived.Test.YtepbchaeeldjmaaDoorHeaderDec
import Derived.Test.YtepbchaeeldjmaaDoorFrameLaw
import Derived.IntWalk
import Derived.Deep.RegionHeld3
namespace Go.Proofs.YtepbchaeeldjmaaDoor
open Go.RowKit

theorem num_one {p : List UInt8} {k : Nat} {b : UInt8} (h : p[k]? = some b) : num ((p.drop k).take 1) = b.toNat := by
  have h1 : (p.drop k)[0]? = some b := by rw [List.getElem?_drop]; exact h
  cases hd : p.drop k with
  | nil => rw [hd] at h1; cases h1
  | cons x l => rw [hd] at h1; injection h1 with h1; subst h1; simp [num]

set_option maxRecDepth 100000 in
set_option maxHeartbeats 4000000 in
theorem refHdecode_any (t : Int) (bs : List UInt8) (A : Option Addr) (n cap B : Nat) (w : World) (_h0 : 0 < w.heap.size) (hb : Byt w B A n bs) (hn : n ≤ cap) (hcap : cap ≤ 9223372036854775807) (hB : B ≤ w.heap.size) (r : Option Hdr) (hr : hdec t bs = r) :
    Calls Tryd.prog 25 #[.slice A n cap, .int .i64 t] w (HDecRes r w) := by
  have HY : Hid (∀ w', Below w.heap.size w w' → Byt w' w.heap.size A n bs) := fun w' hw => (hb.more hB).below hw
  have HB0 : Hid (∀ o, Below w.heap.size w (w.alloc o)) := fun o => (Below.refl _ _).alloc (Nat.le_refl _) _
  clear hb hB
  cases hd : dec 1 0 t bs with
  | none =>
    obtain rfl : r = none := by rw [← hr, hdec_none hd]
    have HD := Lib.hid hd
    clear hr hd
    go_enter Tryd.func25, Tryd.ntmps25
    go_wp2_with fail
    refine (refDecode_any 1 0 t bs A n cap w.heap.size _ (HY.out _ (HB0.out _)) hn hcap (by simp) (by decide) none HD.out).mono ?_
    rintro e w1 ⟨A1, c1, rfl, hown, hbel⟩
    obtain ⟨hcc, hcf⟩ := cells_of_below hbel
    have HB1 : Hid (Below w.heap.size w w1) := (HB0.out _).trans (hbel.mono (by simp))
    have hw1 : w.heap.size < w1.heap.size := by have := hbel.size; simp at this; omega
    simp only [Option.getD_none, Option.isSome_none, List.length_nil]
    clear hown hbel
    go_wp2
    refine bodyPost_ret (v := .tuple #[.agg #[.int .i64 0, .int .i64 0, .int .i64 0, .int .i64 0, .int .i64 0, .int .i64 0], .bool false]) (by simp [results, Tryd.results25, go_sem, *]) rfl ?_
    exact ⟨rfl, (by repeat (first | with_reducible exact HB1.out | with_reducible refine Below.setCell ?_ (by first | (simp; done) | (simp; omega) | omega) _))⟩
  | some p =>
    have hpl : p.length = 59 := by obtain ⟨_, hl, rfl, _⟩ := dec_some hd; exact pay_len hl
    have hmay := (dec_some hd).1
    have h64 : n = 64 := by rw [← (HY.out w (Below.refl _ _)).len]; exact (dec_some hd).2.1
    obtain ⟨n1, hn1⟩ : ∃ x, num ((p.drop 0).take 1) = x := ⟨_, rfl⟩
    obtain ⟨n2, hn2⟩ : ∃ x, num ((p.drop 1).take 1) = x := ⟨_, rfl⟩
    obtain ⟨n3, hn3⟩ : ∃ x, num ((p.drop 2).take 4) = x := ⟨_, rfl⟩
    obtain ⟨n4, hn4⟩ : ∃ x, num ((p.drop 6).take 6) = x := ⟨_, rfl⟩
    obtain ⟨n5, hn5⟩ : ∃ x, num ((p.drop 12).take 6) = x := ⟨_, rfl⟩
    obtain ⟨n6, hn6⟩ : ∃ x, num ((p.drop 18).take 5) = x := ⟨_, rfl⟩
    have hrd : hread p = ((n1 : Int), (n2 : Int), (n3 : Int), (n4 : Int), (n5 : Int), (n6 : Int)) := by rw [← hn1, ← hn2, ← hn3, ← hn4, ← hn5, ← hn6]; rfl
    obtain ⟨tn, rfl⟩ := Int.eq_ofNat_of_zero_le ((may_iff _ _ _).1 hmay).2.2.2.1
    have htl : tn < 1048576 := by have := ((may_iff _ _ _).1 hmay).2.2.2.2; omega
    rw [hdec_some hd, hrd] at hr
    have hC : (hvalid ((n1 : Int), (n2 : Int), (n3 : Int), (n4 : Int), (n5 : Int), (n6 : Int)) = false ∧ r = none) ∨ (hvalid ((n1 : Int), (n2 : Int), (n3 : Int), (n4 : Int), (n5 : Int), (n6 : Int)) = true ∧ hencF ((n1 : Int), (n2 : Int), (n3 : Int), (n4 : Int), (n5 : Int), (n6 : Int)) tn = bs ∧ r = some ((n1 : Int), (n2 : Int), (n3 : Int), (n4 : Int), (n5 : Int), (n6 : Int))) ∨ (hvalid ((n1 : Int), (n2 : Int), (n3 : Int), (n4 : Int), (n5 : Int), (n6 : Int)) = true ∧ hencF ((n1 : Int), (n2 : Int), (n3 : Int), (n4 : Int), (n5 : Int), (n6 : Int)) tn ≠ bs ∧ r = none) := by
      cases hv : hvalid ((n1 : Int), (n2 : Int), (n3 : Int), (n4 : Int), (n5 : Int), (n6 : Int))
      · exact .inl ⟨rfl, by rw [← hr, if_neg (by rw [hv]; simp)]⟩
      · by_cases he : hencF ((n1 : Int), (n2 : Int), (n3 : Int), (n4 : Int), (n5 : Int), (n6 : Int)) tn = bs
        · exact .inr (.inl ⟨rfl, he, by rw [← hr, if_pos ⟨hv, he⟩]⟩)
        · exact .inr (.inr ⟨rfl, he, by rw [← hr, if_neg (fun h => he h.2)]⟩)
    have HC := Lib.hid hC
    have HD := Lib.hid hd
    have HPL := Lib.hid hpl
    have HN3 := Lib.hid hn3
    have hlt3 : n3 < 281474976710656 := by rw [← hn3]; exact take_lt (by decide)
    have HN4 := Lib.hid hn4
    have hlt4 : n4 < 281474976710656 := by rw [← hn4]; exact take_lt (by decide)
    have HN5 := Lib.hid hn5
    have hlt5 : n5 < 281474976710656 := by rw [← hn5]; exact take_lt (by decide)
    have HN6 := Lib.hid hn6
    have hlt6 : n6 < 281474976710656 := by rw [← hn6]; exact take_lt (by decide)
    have HN1 := Lib.hid hn1
    have HN2 := Lib.hid hn2
    clear hC hr hd hrd hpl hmay hn1 hn2 hn3 hn4 hn5 hn6
    subst h64
    go_enter Tryd.func25, Tryd.ntmps25
    go_wp2_with fail
    refine (refDecode_any 1 0 tn bs A 64 cap w.heap.size _ (HY.out _ (HB0.out _)) hn hcap (by simp) (by decide) (some p) HD.out).mono ?_
    rintro e w1 ⟨A1, c1, rfl, hown, hbel⟩
    simp only [Option.getD_some, Option.isSome_some, HPL.out] at hown ⊢
    obtain ⟨g, rfl⟩ := hown.head (by decide)
    obtain ⟨_, _, hv, hc1, hc2⟩ := hown.form
    injection hv with hv1 hv2 hv3
    subst hv3
    have HB1 : Hid (Below w.heap.size w w1) := (HB0.out _).trans (hbel.mono (by simp))
    have HR1 : Hid (Below (w.heap.size + 1) (w.alloc (.cells #[.int .i64 0, .int .i64 0, .int .i64 0, .int .i64 0, .int .i64 0, .int .i64 0] 41)) w1) := hbel.mono (by simp)
    have hw1 : w.heap.size < w1.heap.size := by have := hbel.size; simp at this; omega
    obtain ⟨b0, hb0, q0, _⟩ := hown.at_ 0 (by decide)
    obtain ⟨b1, hb1, q1, _⟩ := hown.at_ 1 (by decide)
    have e1 : n1 = b0.toNat := by rw [← HN1.out]; exact num_one hb0
    have e2 : n2 = b1.toNat := by rw [← HN2.out]; exact num_one hb1
    subst e1 e2
    have hx0 := b0.toNat_lt
    have hx1 := b1.toNat_lt
    have HP3 : Hid (∀ w', Below w1.heap.size w1 w' → Byt w' w1.heap.size (some ⟨g, 2, none⟩) 4 ((p.drop 2).take 4)) := fun w' hw => by
      have h1 := (hown.byt.cut (k := 2) (cap := c1) (by decide) hc1).take (k := 4) (by decide)
      rw [if_neg (by omega)] at h1
      exact h1.below hw
    have hcc2 : ¬ c1 = 2 := by omega
    have hii2 : (6 : Int) ≤ (c1 : Int) := by omega
    have HP4 : Hid (∀ w', Below w1.heap.size w1 w' → Byt w' w1.heap.size (some ⟨g, 6, none⟩) 6 ((p.drop 6).take 6)) := fun w' hw => by
      have h1 := (hown.byt.cut (k := 6) (cap := c1) (by decide) hc1).take (k := 6) (by decide)
      rw [if_neg (by omega)] at h1
      exact h1.below hw
    have hcc6 : ¬ c1 = 6 := by omega
    have hii6 : (12 : Int) ≤ (c1 : Int) := by omega
    have HP5 : Hid (∀ w', Below w1.heap.size w1 w' → Byt w' w1.heap.size (some ⟨g, 12, none⟩) 6 ((p.drop 12).take 6)) := fun w' hw => by
      have h1 := (hown.byt.cut (k := 12) (cap := c1) (by decide) hc1).take (k := 6) (by decide)
      rw [if_neg (by omega)] at h1
      exact h1.below hw
    have hcc12 : ¬ c1 = 12 := by omega
    have hii12 : (18 : Int) ≤ (c1 : Int) := by omega
    have HP6 : Hid (∀ w', Below w1.heap.size w1 w' → Byt w' w1.heap.size (some ⟨g, 18, none⟩) 5 ((p.drop 18).take 5)) := fun w' hw => by
      have h1 := (hown.byt.cut (k := 18) (cap := c1) (by decide) hc1).take (k := 5) (by decide)
      rw [if_neg (by omega)] at h1
      exact h1.below hw
    have hcc18 : ¬ c1 = 18 := by omega
    have hii18 : (23 : Int) ≤ (c1 : Int) := by omega
    have q0' : w1.cell? ⟨g, 0, none⟩ = some (.int .u8 (b0.toNat : Int)) := q0
    have q1' : w1.cell? ⟨g, 1, none⟩ = some (.int .u8 (b1.toNat : Int)) := q1
    have hgl : g < w1.heap.size := hown.lt rfl
    clear hown hbel hv1 hv2 hb0 hb1 q0 q1 HN1 HN2
    go_wp2_with fail
    have hwb0 : IntKind.i64.wrap (b0.toNat : Int) = (b0.toNat : Int) := IntWalk.i64_in _ (by omega)
    have hwb1 : IntKind.i64.wrap (b1.toNat : Int) = (b1.toNat : Int) := IntWalk.i64_in _ (by omega)
    have hwn3 : IntKind.i64.wrap (n3 : Int) = (n3 : Int) := IntWalk.i64_in _ (by omega)
    have hwn4 : IntKind.i64.wrap (n4 : Int) = (n4 : Int) := IntWalk.i64_in _ (by omega)
    have hwn5 : IntKind.i64.wrap (n5 : Int) = (n5 : Int) := IntWalk.i64_in _ (by omega)
    have hwn6 : IntKind.i64.wrap (n6 : Int) = (n6 : Int) := IntWalk.i64_in _ (by omega)
    go_region_held3 (fun w' => w'.cell? ⟨g, 0, none⟩ = some (.int .u8 (b0.toNat : Int)) ∧ w'.cell? ⟨g, 1, none⟩ = some (.int .u8 (b1.toNat : Int))) (go_keep) (first | (go_at_call 38; with_reducible refine (refNum_any ((p.drop 2).take 4) (some ⟨g, 2, none⟩) 4 _ w1.heap.size _ (HP3.out _ ?_) (by decide)).mono ?_; (repeat (first | with_reducible exact Below.refl _ _ | with_reducible refine Below.drew ?_ | with_reducible refine Below.alloc ?_ (Nat.le_refl _) _)); rintro e w' ⟨rfl, rfl⟩; rw [HN3.out]) | (go_at_call 38; with_reducible refine (refNum_any ((p.drop 6).take 6) (some ⟨g, 6, none⟩) 6 _ w1.heap.size _ (HP4.out _ ?_) (by decide)).mono ?_; (repeat (first | with_reducible exact Below.refl _ _ | with_reducible refine Below.drew ?_ | with_reducible refine Below.alloc ?_ (Nat.le_refl _) _)); rintro e w' ⟨rfl, rfl⟩; rw [HN4.out]) | (go_at_call 38; with_reducible refine (refNum_any ((p.drop 12).take 6) (some ⟨g, 12, none⟩) 6 _ w1.heap.size _ (HP5.out _ ?_) (by decide)).mono ?_; (repeat (first | with_reducible exact Below.refl _ _ | with_reducible refine Below.drew ?_ | with_reducible refine Below.alloc ?_ (Nat.le_refl _) _)); rintro e w' ⟨rfl, rfl⟩; rw [HN5.out]) | (go_at_call 38; with_reducible refine (refNum_any ((p.drop 18).take 5) (some ⟨g, 18, none⟩) 5 _ w1.heap.size _ (HP6.out _ ?_) (by decide)).mono ?_; (repeat (first | with_reducible exact Below.refl _ _ | with_reducible refine Below.drew ?_ | with_reducible refine Below.alloc ?_ (Nat.le_refl _) _)); rintro e w' ⟨rfl, rfl⟩; rw [HN6.out]))
    all_goals clear hwb0 hwb1 hwn3 hwn4 hwn5 hwn6 HP3 HP4 HP5 HP6 hcc2 hcc6 hcc12 hcc18 hii2 hii6 hii12 hii18
    all_goals
      rcases HC.out with ⟨h1, rfl⟩ | ⟨h1, h2, rfl⟩ | ⟨h1, h2, rfl⟩
      · clear HC
        go_wp2_with fail
        refine (refHvalid_any (b0.toNat : Int) (b1.toNat : Int) (n3 : Int) (n4 : Int) (n5 : Int) (n6 : Int) false h1 _).mono ?_
        rintro e w2 ⟨rfl, hbel⟩
        have HB2 : Hid (Below w.heap.size w w2) := Below.trans (by repeat (first | with_reducible exact HB1.out | with_reducible refine Below.drew ?_ | with_reducible refine Below.alloc ?_ (by first | exact HB1.out.size | (have := HB1.out.size; simp at this ⊢; omega)) _)) (hbel.mono (by have := HB1.out.size; simp; omega))
        have HR2 : Hid (Below (w.heap.size + 1) (w.alloc (.cells #[.int .i64 0, .int .i64 0, .int .i64 0, .int .i64 0, .int .i64 0, .int .i64 0] 41)) w2) := Below.trans (by repeat (first | with_reducible exact HR1.out | with_reducible refine Below.drew ?_ | with_reducible refine Below.alloc ?_ (by first | exact HR1.out.size | (have := HR1.out.size; simp at this ⊢; omega)) _)) (hbel.mono (by simp; omega))
        have HX2 : Hid (Box6 w2 w1.heap.size (b0.toNat : Int) (b1.toNat : Int) (n3 : Int) (n4 : Int) (n5 : Int) (n6 : Int)) := (Box6.new w1 41 (b0.toNat : Int) (b1.toNat : Int) (n3 : Int) (n4 : Int) (n5 : Int) (n6 : Int)).below (B := w1.heap.size + 1) (Below.trans (Below.drew (Below.refl _ _)) (hbel.mono (by simp))) (by omega)
        have hw2 : w1.heap.size < w2.heap.size := by have := hbel.size; simp at this; omega
        have hw3 : w.heap.size < w2.heap.size := by omega
        clear hbel q0' q1'
        obtain ⟨hcc, hcf⟩ := cells_of_below HR2.out
        go_wp2
        refine bodyPost_ret (v := .tuple #[.agg #[.int .i64 0, .int .i64 0, .int .i64 0, .int .i64 0, .int .i64 0, .int .i64 0], .bool false]) (by simp [results, Tryd.results25, go_sem, *]) rfl ?_
        exact ⟨rfl, (by repeat (first | with_reducible exact HB2.out | with_reducible refine Below.setCell ?_ (by first | (simp; done) | (simp; omega) | omega) _))⟩
      · clear HC
        go_wp2_with fail
        refine (refHvalid_any (b0.toNat : Int) (b1.toNat : Int) (n3 : Int) (n4 : Int) (n5 : Int) (n6 : Int) true h1 _).mono ?_
        rintro e w2 ⟨rfl, hbel⟩
        have HB2 : Hid (Below w.heap.size w w2) := Below.trans (by repeat (first | with_reducible exact HB1.out | with_reducible refine Below.drew ?_ | with_reducible refine Below.alloc ?_ (by first | exact HB1.out.size | (have := HB1.out.size; simp at this ⊢; omega)) _)) (hbel.mono (by have := HB1.out.size; simp; omega))
        have HR2 : Hid (Below (w.heap.size + 1) (w.alloc (.cells #[.int .i64 0, .int .i64 0, .int .i64 0, .int .i64 0, .int .i64 0, .int .i64 0] 41)) w2) := Below.trans (by repeat (first | with_reducible exact HR1.out | with_reducible refine Below.drew ?_ | with_reducible refine Below.alloc ?_ (by first | exact HR1.out.size | (have := HR1.out.size; simp at this ⊢; omega)) _)) (hbel.mono (by simp; omega))
        have HX2 : Hid (Box6 w2 w1.heap.size (b0.toNat : Int) (b1.toNat : Int) (n3 : Int) (n4 : Int) (n5 : Int) (n6 : Int)) := (Box6.new w1 41 (b0.toNat : Int) (b1.toNat : Int) (n3 : Int) (n4 : Int) (n5 : Int) (n6 : Int)).below (B := w1.heap.size + 1) (Below.trans (Below.drew (Below.refl _ _)) (hbel.mono (by simp))) (by omega)
        have hw2 : w1.heap.size < w2.heap.size := by have := hbel.size; simp at this; omega
        have hw3 : w.heap.size < w2.heap.size := by omega
        clear hbel q0' q1'
        obtain ⟨l0, l1, l2, l3, l4, l5⟩ := HX2.out
        go_wp2_with fail
        refine (refHencode_any (b0.toNat : Int) (b1.toNat : Int) (n3 : Int) (n4 : Int) (n5 : Int) (n6 : Int) tn w2 h1 htl _ rfl).mono ?_
        rintro e w3 ⟨A3, c3, rfl, hown, hbel⟩
        have HB3 : Hid (Below w.heap.size w w3) := HB2.out.trans (hbel.mono HB2.out.size)
        have HR3 : Hid (Below (w.heap.size + 1) (w.alloc (.cells #[.int .i64 0, .int .i64 0, .int .i64 0, .int .i64 0, .int .i64 0, .int .i64 0] 41)) w3) := HR2.out.trans (hbel.mono (by omega))
        clear l0 l1 l2 l3 l4 l5
        obtain ⟨l0, l1, l2, l3, l4, l5⟩ := HX2.out.below hbel hw2
        have hw4 : w.heap.size < w3.heap.size := Nat.lt_of_lt_of_le hw3 hbel.size
        have hw5 : w1.heap.size < w3.heap.size := Nat.lt_of_lt_of_le hw2 hbel.size
        rw [hencF_len] at hown ⊢
        have HO3 := Lib.hid hown
        clear hown hbel
        have h3 := Lib.hid h2
        clear h2
        go_wp2_with fail
        refine (eq_any (hencF ((b0.toNat : Int), (b1.toNat : Int), (n3 : Int), (n4 : Int), (n5 : Int), (n6 : Int)) tn) bs A3 A 64 64 c3 cap _ w.heap.size w3 HO3.out.byt (HY.out _ HB3.out) (by decide) (by decide)).mono ?_
        rintro e w4 ⟨rfl, m, rfl⟩
        obtain ⟨hcc, hcf⟩ := cells_of_below HR3.out
        rw [decide_eq_true h3.out]
        go_wp2
        refine bodyPost_ret (v := .tuple #[.agg #[.int .i64 (b0.toNat : Int), .int .i64 (b1.toNat : Int), .int .i64 n3, .int .i64 n4, .int .i64 n5, .int .i64 n6], .bool true]) (by simp [results, Tryd.results25, go_sem, *]) rfl ?_
        exact ⟨rfl, (by repeat (first | with_reducible refine ofDrewN ?_ _ | with_reducible exact HB3.out | with_reducible refine Below.setCell ?_ (by first | (simp; done) | (simp; omega) | omega) _))⟩
      · clear HC
        go_wp2_with fail
        refine (refHvalid_any (b0.toNat : Int) (b1.toNat : Int) (n3 : Int) (n4 : Int) (n5 : Int) (n6 : Int) true h1 _).mono ?_
        rintro e w2 ⟨rfl, hbel⟩
        have HB2 : Hid (Below w.heap.size w w2) := Below.trans (by repeat (first | with_reducible exact HB1.out | with_reducible refine Below.drew ?_ | with_reducible refine Below.alloc ?_ (by first | exact HB1.out.size | (have := HB1.out.size; simp at this ⊢; omega)) _)) (hbel.mono (by have := HB1.out.size; simp; omega))
        have HR2 : Hid (Below (w.heap.size + 1) (w.alloc (.cells #[.int .i64 0, .int .i64 0, .int .i64 0, .int .i64 0, .int .i64 0, .int .i64 0] 41)) w2) := Below.trans (by repeat (first | with_reducible exact HR1.out | with_reducible refine Below.drew ?_ | with_reducible refine Below.alloc ?_ (by first | exact HR1.out.size | (have := HR1.out.size; simp at this ⊢; omega)) _)) (hbel.mono (by simp; omega))
        have HX2 : Hid (Box6 w2 w1.heap.size (b0.toNat : Int) (b1.toNat : Int) (n3 : Int) (n4 : Int) (n5 : Int) (n6 : Int)) := (Box6.new w1 41 (b0.toNat : Int) (b1.toNat : Int) (n3 : Int) (n4 : Int) (n5 : Int) (n6 : Int)).below (B := w1.heap.size + 1) (Below.trans (Below.drew (Below.refl _ _)) (hbel.mono (by simp))) (by omega)
        have hw2 : w1.heap.size < w2.heap.size := by have := hbel.size; simp at this; omega
        have hw3 : w.heap.size < w2.heap.size := by omega
        clear hbel q0' q1'
        obtain ⟨l0, l1, l2, l3, l4, l5⟩ := HX2.out
        go_wp2_with fail
        refine (refHencode_any (b0.toNat : Int) (b1.toNat : Int) (n3 : Int) (n4 : Int) (n5 : Int) (n6 : Int) tn w2 h1 htl _ rfl).mono ?_
        rintro e w3 ⟨A3, c3, rfl, hown, hbel⟩
        have HB3 : Hid (Below w.heap.size w w3) := HB2.out.trans (hbel.mono HB2.out.size)
        have HR3 : Hid (Below (w.heap.size + 1) (w.alloc (.cells #[.int .i64 0, .int .i64 0, .int .i64 0, .int .i64 0, .int .i64 0, .int .i64 0] 41)) w3) := HR2.out.trans (hbel.mono (by omega))
        clear l0 l1 l2 l3 l4 l5
        obtain ⟨l0, l1, l2, l3, l4, l5⟩ := HX2.out.below hbel hw2
        have hw4 : w.heap.size < w3.heap.size := Nat.lt_of_lt_of_le hw3 hbel.size
        have hw5 : w1.heap.size < w3.heap.size := Nat.lt_of_lt_of_le hw2 hbel.size
        rw [hencF_len] at hown ⊢
        have HO3 := Lib.hid hown
        clear hown hbel
        have h3 := Lib.hid h2
        clear h2
        go_wp2_with fail
        refine (eq_any (hencF ((b0.toNat : Int), (b1.toNat : Int), (n3 : Int), (n4 : Int), (n5 : Int), (n6 : Int)) tn) bs A3 A 64 64 c3 cap _ w.heap.size w3 HO3.out.byt (HY.out _ HB3.out) (by decide) (by decide)).mono ?_
        rintro e w4 ⟨rfl, m, rfl⟩
        obtain ⟨hcc, hcf⟩ := cells_of_below HR3.out
        rw [decide_eq_false h3.out]
        go_wp2
        refine bodyPost_ret (v := .tuple #[.agg #[.int .i64 0, .int .i64 0, .int .i64 0, .int .i64 0, .int .i64 0, .int .i64 0], .bool false]) (by simp [results, Tryd.results25, go_sem, *]) rfl ?_
        exact ⟨rfl, (by repeat (first | with_reducible refine ofDrewN ?_ _ | with_reducible exact HB3.out | with_reducible refine Below.setCell ?_ (by first | (simp; done) | (simp; omega) | omega) _))⟩
end Go.Proofs.YtepbchaeeldjmaaDoor
