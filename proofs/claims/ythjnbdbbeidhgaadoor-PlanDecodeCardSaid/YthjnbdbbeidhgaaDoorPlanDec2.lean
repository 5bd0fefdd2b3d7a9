/- The walk of the reference's Decode of plan records. -/
import Derived.Test.YthjnbdbbeidhgaaDoorPlanEncLaw
import Derived.Test.YthjnbdbbeidhgaaDoorPlanRef
import Derived.Test.YthjnbdbbeidhgaaDoorFrameLaw
import Derived.Deep.DeepCutAuto
import Derived.Deep.RegionHeld3
namespace Go.Proofs.YthjnbdbbeidhgaaDoor
open Go.RowKit

set_option maxRecDepth 100000 in
set_option maxHeartbeats 8000000 in
theorem refPdecode_any (t : Int) (bs : List UInt8) (A : Option Addr) (n cap B : Nat) (w : World) (hb : Byt w B A n bs) (hn : n ≤ cap) (hcap : cap ≤ 9223372036854775807) (hB : B ≤ w.heap.size) (r : Option Pln) (hr : pdecW preadR t bs = r) :
    Calls Tryd.prog 16 #[.slice A n cap, .int .i64 t] w (PDecRes r w) := by
  have HY : Hid (∀ w', Below w.heap.size w w' → Byt w' w.heap.size A n bs) := fun w' hw => (hb.more hB).below hw
  have HB0 : Hid (∀ o, Below w.heap.size w (w.alloc o)) := fun o => (Below.refl _ _).alloc (Nat.le_refl _) _
  clear hb hB
  cases hd : dec 4 0 t bs with
  | none =>
    obtain rfl : r = none := by rw [← hr, pdec_none hd]
    have HD := Lib.hid hd
    clear hr hd
    go_enter Tryd.func16, Tryd.ntmps16
    go_wp2_with fail
    refine (refDecode_any 4 0 t bs A n cap w.heap.size _ (HY.out _ (HB0.out _)) hn hcap (by simp) (by decide) none HD.out).mono ?_
    rintro e w1 ⟨A1, c1, rfl, hown, hbel⟩
    obtain ⟨hcc, hcf⟩ := cells_of_below hbel
    have HB1 : Hid (Below w.heap.size w w1) := (HB0.out _).trans (hbel.mono (by simp))
    have hw1 : w.heap.size < w1.heap.size := by have := hbel.size; simp at this; omega
    simp only [Option.getD_none, Option.isSome_none, List.length_nil]
    clear hown hbel
    go_wp2
    refine bodyPost_ret (v := .tuple #[.agg #[.int .i64 0, .int .i64 0, .int .i64 0, .int .i64 0, .int .i64 0, .int .i64 0, .int .i64 0, .int .i64 0], .bool false]) (by simp [results, Tryd.results16, go_sem, *]) rfl ?_
    exact ⟨rfl, (by repeat (first | with_reducible exact HB1.out | with_reducible refine Below.setCell ?_ (by first | (simp; done) | (simp; omega) | omega) _))⟩
  | some p =>
    have hpl : p.length = 59 := by obtain ⟨_, hl, rfl, _⟩ := dec_some hd; exact pay_len hl
    have hmay := (may_iff _ _ _).1 (dec_some hd).1
    have h64 : n = 64 := by rw [← (HY.out w (Below.refl _ _)).len]; exact (dec_some hd).2.1
    obtain ⟨n1, hn1⟩ : ∃ x, num ((p.drop 0).take 1) = x := ⟨_, rfl⟩
    obtain ⟨n2, hn2⟩ : ∃ x, num ((p.drop 1).take 4) = x := ⟨_, rfl⟩
    obtain ⟨n3, hn3⟩ : ∃ x, num ((p.drop 5).take 1) = x := ⟨_, rfl⟩
    obtain ⟨n4, hn4⟩ : ∃ x, num ((p.drop 6).take 6) = x := ⟨_, rfl⟩
    obtain ⟨n5, hn5⟩ : ∃ x, num ((p.drop 12).take 4) = x := ⟨_, rfl⟩
    obtain ⟨n6, hn6⟩ : ∃ x, num ((p.drop 16).take 1) = x := ⟨_, rfl⟩
    obtain ⟨kk, hkk⟩ : ∃ x, num ((p.drop 17).take 1) = x := ⟨_, rfl⟩
    obtain ⟨n8, hn8⟩ : ∃ x, num ((p.drop 18).take 1) = x := ⟨_, rfl⟩
    obtain ⟨n7, hn7⟩ : ∃ x, lrsR n5 n6 n8 kk = x := ⟨_, rfl⟩
    have hrd : preadR p = ((n1 : Int), (n2 : Int), (n3 : Int), (n4 : Int), (n5 : Int), (n6 : Int), n7, (n8 : Int)) := by unfold preadR; rw [hn1, hn2, hn3, hn4, hn5, hn6, hkk, hn8, hn7]
    have b2 : n2 < 281474976710656 := by rw [← hn2]; exact take_lt (by decide)
    have b4 : n4 < 281474976710656 := by rw [← hn4]; exact take_lt (by decide)
    have i5 : I64 (n5 : Int) := by
      have hlt : n5 < 281474976710656 := by rw [← hn5]; exact take_lt (by decide)
      unfold I64; omega
    have i6 : I64 (n6 : Int) := by
      have hlt : n6 < 256 := by rw [← hn6]; exact take_lt1
      unfold I64; omega
    have i8 : I64 (n8 : Int) := by
      have hlt : n8 < 256 := by rw [← hn8]; exact take_lt1
      unfold I64; omega
    have i7 : I64 n7 := by
      rw [← hn7]; unfold lrsR I64
      split
      · omega
      · have hb : 2 ^ min kk 12 ≤ 2 ^ 12 := Nat.pow_le_pow_right (by decide) (by omega)
        simp only [Nat.reducePow] at hb
        generalize 2 ^ min kk 12 = z at hb ⊢
        omega
    rw [pdec_some hd, hrd] at hr
    obtain ⟨vb, hvb⟩ : ∃ x, pvalid ((n1 : Int), (n2 : Int), (n3 : Int), (n4 : Int), (n5 : Int), (n6 : Int), n7, (n8 : Int)) = x := ⟨_, rfl⟩
    have hC : (vb = false ∧ r = none) ∨ (vb = true ∧ pencF ((n1 : Int), (n2 : Int), (n3 : Int), (n4 : Int), (n5 : Int), (n6 : Int), n7, (n8 : Int)) t = bs ∧ r = some ((n1 : Int), (n2 : Int), (n3 : Int), (n4 : Int), (n5 : Int), (n6 : Int), n7, (n8 : Int))) ∨ (vb = true ∧ pencF ((n1 : Int), (n2 : Int), (n3 : Int), (n4 : Int), (n5 : Int), (n6 : Int), n7, (n8 : Int)) t ≠ bs ∧ r = none) := by
      cases vb
      · exact .inl ⟨rfl, by rw [← hr, if_neg (by rw [hvb]; simp)]⟩
      · by_cases he : pencF ((n1 : Int), (n2 : Int), (n3 : Int), (n4 : Int), (n5 : Int), (n6 : Int), n7, (n8 : Int)) t = bs
        · exact .inr (.inl ⟨rfl, he, by rw [← hr, if_pos ⟨hvb, he⟩]⟩)
        · exact .inr (.inr ⟨rfl, he, by rw [← hr, if_neg (fun h => he h.2)]⟩)
    have RV := Lib.hid (refPvalid_any n1 n2 n3 n4 n5 n6 n7 n8 i5 i6 i7 i8 vb hvb)
    have RE : Hid (vb = true → ∀ u : World, Calls Tryd.prog 15 #[.agg #[.int .i64 (n1 : Int), .int .i64 (n2 : Int), .int .i64 (n3 : Int), .int .i64 (n4 : Int), .int .i64 (n5 : Int), .int .i64 (n6 : Int), .int .i64 n7, .int .i64 (n8 : Int)], .int .i64 t] u (PutRes u.heap.size (pencF ((n1 : Int), (n2 : Int), (n3 : Int), (n4 : Int), (n5 : Int), (n6 : Int), n7, (n8 : Int)) t) u)) := fun hv u => by
      have e : ((t.toNat : Nat) : Int) = t := by omega
      have h := refPencode_any n1 n2 n3 n4 n5 n6 n7 n8 t.toNat u (by rw [hvb]; exact hv) (by omega) _ rfl
      rwa [e] at h
    have HC := Lib.hid hC
    have HD := Lib.hid hd
    have HPL := Lib.hid hpl
    have HN5 := Lib.hid hn5
    have HN6 := Lib.hid hn6
    have HNK := Lib.hid hkk
    have HN8 := Lib.hid hn8
    have HN7 := Lib.hid hn7
    have HN1 := Lib.hid hn1
    have HN2 := Lib.hid hn2
    have HN3 := Lib.hid hn3
    have HN4 := Lib.hid hn4
    clear hC hr hd hrd hpl hmay hn1 hn2 hn3 hn4 hn5 hn6 hkk hn8 hn7 hvb i5 i6 i7 i8
    subst h64
    go_enter Tryd.func16, Tryd.ntmps16
    go_wp2_with fail
    refine (refDecode_any 4 0 t bs A 64 cap w.heap.size _ (HY.out _ (HB0.out _)) hn hcap (by simp) (by decide) (some p) HD.out).mono ?_
    rintro e w1 ⟨A1, c1, rfl, hown, hbel⟩
    simp only [Option.getD_some, Option.isSome_some, HPL.out] at hown ⊢
    obtain ⟨g, rfl⟩ := hown.head (by decide)
    obtain ⟨_, _, hv, hc1, hc2⟩ := hown.form
    injection hv with hv1 hv2 hv3
    subst hv3
    have HB1 : Hid (Below w.heap.size w w1) := (HB0.out _).trans (hbel.mono (by simp))
    have HR1 : Hid (Below (w.heap.size + 1) (w.alloc (.cells #[.int .i64 0, .int .i64 0, .int .i64 0, .int .i64 0, .int .i64 0, .int .i64 0, .int .i64 0, .int .i64 0] 25)) w1) := hbel.mono (by simp)
    have hw1 : w.heap.size < w1.heap.size := by have := hbel.size; simp at this; omega
    obtain ⟨b0, hb0, q0, _⟩ := hown.at_ 0 (by decide)
    obtain ⟨b5, hb5, q5, _⟩ := hown.at_ 5 (by decide)
    have e1 : n1 = b0.toNat := by rw [← HN1.out]; exact num_at hb0
    have e3 : n3 = b5.toNat := by rw [← HN3.out]; exact num_at hb5
    subst e1 e3
    have hx0 := b0.toNat_lt
    have hx5 := b5.toNat_lt
    have hgl : g < w1.heap.size := hown.lt rfl
    have HP1 : Hid (∀ u c, Below w1.heap.size w1 u → Calls Tryd.prog 44 #[.slice (some ⟨g, 1, none⟩) 4 c] u fun e u' => e = .returned (.int .u64 (n2 : Int)) ∧ u = u') := fun u c hu => by
      have h1 := (hown.byt.cut (k := 1) (cap := c1) (by decide) hc1).take (k := 4) (by decide)
      rw [if_neg (by omega)] at h1
      have h2 := refNum_any _ _ 4 c w1.heap.size u (h1.below hu) (by decide)
      rw [HN2.out] at h2
      exact h2
    have HP6 : Hid (∀ u c, Below w1.heap.size w1 u → Calls Tryd.prog 44 #[.slice (some ⟨g, 6, none⟩) 6 c] u fun e u' => e = .returned (.int .u64 (n4 : Int)) ∧ u = u') := fun u c hu => by
      have h1 := (hown.byt.cut (k := 6) (cap := c1) (by decide) hc1).take (k := 6) (by decide)
      rw [if_neg (by omega)] at h1
      have h2 := refNum_any _ _ 6 c w1.heap.size u (h1.below hu) (by decide)
      rw [HN4.out] at h2
      exact h2
    have HRd : Hid (∀ u, Below w1.heap.size w1 u → Calls Tryd.prog 45 #[.slice (some ⟨g, 12, none⟩) 7 (c1 - 12)] u fun e u' => e = .returned (.agg #[.int .i64 (n5 : Int), .int .i64 (n6 : Int), .int .i64 n7, .int .i64 (n8 : Int)]) ∧ Below u.heap.size u u') := fun u hu => by
      have h1 := (hown.byt.cut (k := 12) (cap := c1) (by decide) hc1).take (k := 7) (by decide)
      rw [if_neg (by omega)] at h1
      have e : ∀ k m, k + m ≤ 7 → (((p.drop 12).take 7).drop k).take m = (p.drop (12 + k)).take m := fun k m hkm => by rw [List.drop_take, List.take_take, List.drop_drop, Nat.min_eq_left (by omega)]
      have h := refRead_any ((p.drop 12).take 7) ⟨g, 12, none⟩ (c1 - 12) w1.heap.size n5 n6 kk n8 u (h1.below hu) (by omega) hu.size (by rw [e 0 4 (by decide)]; exact HN5.out) (by rw [e 4 1 (by decide)]; exact HN6.out) (by rw [e 5 1 (by decide)]; exact HNK.out) (by rw [e 6 1 (by decide)]; exact HN8.out)
      rwa [HN7.out] at h
    have HQ : Hid (∀ u, Below w1.heap.size w1 u → u.cell? ⟨g, 0, none⟩ = some (.int .u8 (b0.toNat : Int)) ∧ u.cell? ⟨g, 5, none⟩ = some (.int .u8 (b5.toNat : Int))) := fun u hu => ⟨(hu.cell (by exact hgl)).trans q0, (hu.cell (by exact hgl)).trans q5⟩
    have q0' : w1.cell? ⟨g, 0, none⟩ = some (.int .u8 (b0.toNat : Int)) := q0
    have q5' : w1.cell? ⟨g, 5, none⟩ = some (.int .u8 (b5.toNat : Int)) := q5
    have wb0 : IntKind.i64.wrap (b0.toNat : Int) = (b0.toNat : Int) := IntWalk.i64_in _ (by omega)
    have wb5 : IntKind.i64.wrap (b5.toNat : Int) = (b5.toNat : Int) := IntWalk.i64_in _ (by omega)
    have wn2 : IntKind.i64.wrap (n2 : Int) = (n2 : Int) := IntWalk.i64_in _ (by omega)
    have wn4 : IntKind.i64.wrap (n4 : Int) = (n4 : Int) := IntWalk.i64_in _ (by omega)
    have j1 : ¬ c1 = 1 := by omega
    have j6 : ¬ c1 = 6 := by omega
    have j12 : ¬ c1 = 12 := by omega
    have y5 : (5 : Int) ≤ (c1 : Int) := by omega
    have y12 : (12 : Int) ≤ (c1 : Int) := by omega
    have y19 : (19 : Int) ≤ (c1 : Int) := by omega
    clear hown hbel hv1 hv2 hb0 hb5 q0 q5 HN1 HN2 HN3 HN4 HN5 HN6 HN7 HN8 HNK
    go_upto_region 4 with fail
    have hgne : ¬ w1.heap.size = g := by omega
    have hgen : ∀ (u : World) (b j k : Nat) (x : Value), w1.heap.size ≤ b → (u.setCell ⟨b, k, none⟩ x).cell? ⟨g, j, none⟩ = u.cell? ⟨g, j, none⟩ := fun u b j k x hb => World.cell?_setCell_other _ _ _ _ (fun e => by injection e; omega)
    go_cut [8] (fun a wx => ∃ bl : Nat, a = .pointer (some ⟨bl, 0, none⟩) ∧ Cells wx bl #[.int .i64 (b0.toNat : Int), .int .i64 (n2 : Int), .int .i64 (b5.toNat : Int), .int .i64 (n4 : Int), .int .i64 (n5 : Int), .int .i64 (n6 : Int), .int .i64 n7, .int .i64 (n8 : Int)].toList ∧ Below w.heap.size w wx ∧ Below (w.heap.size + 1) (w.alloc (.cells #[.int .i64 0, .int .i64 0, .int .i64 0, .int .i64 0, .int .i64 0, .int .i64 0, .int .i64 0, .int .i64 0] 25)) wx ∧ bl < wx.heap.size ∧ w.heap.size < bl)
    case first =>
      go_region_held3 (fun w' => w'.cell? ⟨g, 0, none⟩ = some (.int .u8 (b0.toNat : Int)) ∧ w'.cell? ⟨g, 5, none⟩ = some (.int .u8 (b5.toNat : Int))) (go_keep) (first
        | (go_at_call 44; (with_reducible refine (HP1.out _ _ ?_).mono ?_); (repeat (first | with_reducible exact Below.refl _ _ | with_reducible refine Below.drew ?_ | with_reducible refine Below.alloc ?_ (Nat.le_refl _) _)); rintro e w' ⟨rfl, rfl⟩)
        | (go_at_call 44; (with_reducible refine (HP6.out _ _ ?_).mono ?_); (repeat (first | with_reducible exact Below.refl _ _ | with_reducible refine Below.drew ?_ | with_reducible refine Below.alloc ?_ (Nat.le_refl _) _)); rintro e w' ⟨rfl, rfl⟩)
        | (go_at_call 45; refine (HRd.out _ ?_).mono ?_; (repeat (first | with_reducible exact Below.refl _ _ | with_reducible refine Below.drew ?_ | with_reducible refine Below.alloc ?_ (Nat.le_refl _) _)); rintro e w2 ⟨rfl, hb2⟩; obtain ⟨hcc, hcf⟩ := cells_of_below hb2; have hz2 := hb2.size; (try simp at hz2); have HL2 : Hid (Below w1.heap.size w1 w2) := Below.trans (by (repeat (first | with_reducible exact Below.refl _ _ | with_reducible refine Below.drew ?_ | with_reducible refine Below.alloc ?_ (Nat.le_refl _) _))) (hb2.mono (by simp)); obtain ⟨r0, r5⟩ := HQ.out _ HL2.out; have HB2 := Lib.hid (HB1.out.trans (HL2.out.mono HB1.out.size)); have HR2 := Lib.hid (HR1.out.trans (HL2.out.mono (by omega))); have hz3 := HL2.out.size; clear hb2))
      all_goals
        go_wp2_with fail
        (try go_simp)
        go_meet
        first
          | (refine ⟨w2.heap.size, (by with_reducible rfl), ?_, ?_, ?_, ?_, ?_⟩
             · exact Cells.new w2 _ #[.int .i64 (b0.toNat : Int), .int .i64 (n2 : Int), .int .i64 (b5.toNat : Int), .int .i64 (n4 : Int), .int .i64 (n5 : Int), .int .i64 (n6 : Int), .int .i64 n7, .int .i64 (n8 : Int)]
             · exact HB2.out.alloc HB2.out.size _
             · exact HR2.out.alloc (by have := HR2.out.size; simp at this; omega) _
             · simp
             · have := HR2.out.size; simp at this; omega)
          | (have hz8 : ∀ j, j < 8 → w2.cell? ⟨w1.heap.size, j, none⟩ = some (.int .i64 0) := by
               intro j hj
               obtain rfl | rfl | rfl | rfl | rfl | rfl | rfl | rfl : j = 0 ∨ j = 1 ∨ j = 2 ∨ j = 3 ∨ j = 4 ∨ j = 5 ∨ j = 6 ∨ j = 7 := by omega
               all_goals go_simp
             clear hcc hcf
             exact ⟨w1.heap.size, rfl, cells_set8 hz8, HB2.out.trans (below_set8 (by omega)), HR2.out.trans (below_set8 (by omega)), by simp [World.setCell]; omega, by omega⟩)
    case rest =>
      obtain ⟨bl, rfl, hcx, hbel, hbelR, hlt, hgt⟩ := hcut
      have HX := Lib.hid hcx
      have HB5 := Lib.hid hbel
      have HR5 := Lib.hid hbelR
      have l0 := hcx 0 _ rfl
      have l1 := hcx 1 _ rfl
      have l2 := hcx 2 _ rfl
      have l3 := hcx 3 _ rfl
      have l4 := hcx 4 _ rfl
      have l5 := hcx 5 _ rfl
      have l6 := hcx 6 _ rfl
      have l7 := hcx 7 _ rfl
      clear hcx hbel hbelR HP1 HP6 HRd HQ q0' q5' hgen hgne j1 j6 j12 y5 y12 y19 wb0 wb5 wn2 wn4 HR1 HB1
      go_wp2_with fail
      refine (RV.out _).mono ?_
      rintro e w5 ⟨rfl, hbel⟩
      have HB6 := Lib.hid (HB5.out.trans (hbel.mono HB5.out.size))
      have HR6 := Lib.hid (HR5.out.trans (hbel.mono (by omega)))
      have HX6 := Lib.hid (HX.out.below hbel hlt)
      have hw5 : bl < w5.heap.size := Nat.lt_of_lt_of_le hlt hbel.size
      have hw6 : w.heap.size < w5.heap.size := by omega
      clear hbel l0 l1 l2 l3 l4 l5 l6 l7
      rcases HC.out with ⟨rfl, rfl⟩ | ⟨rfl, h2, rfl⟩ | ⟨rfl, h2, rfl⟩
      · clear HC
        obtain ⟨hcc, hcf⟩ := cells_of_below HR6.out
        go_wp2
        refine bodyPost_ret (v := .tuple #[.agg #[.int .i64 0, .int .i64 0, .int .i64 0, .int .i64 0, .int .i64 0, .int .i64 0, .int .i64 0, .int .i64 0], .bool false]) (by simp [results, Tryd.results16, go_sem, *]) rfl ?_
        exact ⟨rfl, (by repeat (first | with_reducible exact HB6.out | with_reducible refine Below.setCell ?_ (by first | (simp; done) | (simp; omega) | omega) _))⟩
      · clear HC
        have h3 := Lib.hid h2
        clear h2
        have l0 := HX6.out 0 _ rfl
        have l1 := HX6.out 1 _ rfl
        have l2 := HX6.out 2 _ rfl
        have l3 := HX6.out 3 _ rfl
        have l4 := HX6.out 4 _ rfl
        have l5 := HX6.out 5 _ rfl
        have l6 := HX6.out 6 _ rfl
        have l7 := HX6.out 7 _ rfl
        go_wp2_with fail
        clear l0 l1 l2 l3 l4 l5 l6 l7
        refine (RE.out (by first | exact trivial | rfl) _).mono ?_
        rintro e w7 ⟨A7, c7, rfl, hown, hbel⟩
        rw [pencF_len] at hown ⊢
        have HO7 := Lib.hid hown
        have HB7 := Lib.hid (HB6.out.trans (hbel.mono HB6.out.size))
        have HR7 := Lib.hid (HR6.out.trans (hbel.mono (by omega)))
        have HX7 := Lib.hid (HX6.out.below hbel hw5)
        have hw7 : w.heap.size < w7.heap.size := Nat.lt_of_lt_of_le hw6 hbel.size
        have hw8 : bl < w7.heap.size := Nat.lt_of_lt_of_le hw5 hbel.size
        clear hown hbel
        go_wp2_with fail
        refine (eq_any (pencF ((b0.toNat : Int), (n2 : Int), (b5.toNat : Int), (n4 : Int), (n5 : Int), (n6 : Int), n7, (n8 : Int)) t) bs A7 A 64 64 c7 cap _ w.heap.size w7 HO7.out.byt (HY.out _ HB7.out) (by decide) (by decide)).mono ?_
        rintro e w' ⟨rfl, q, rfl⟩
        obtain ⟨hcc, hcf⟩ := cells_of_below HR7.out
        have hx7 := HX7.out
        have l0 := hx7 0 _ rfl
        have l1 := hx7 1 _ rfl
        have l2 := hx7 2 _ rfl
        have l3 := hx7 3 _ rfl
        have l4 := hx7 4 _ rfl
        have l5 := hx7 5 _ rfl
        have l6 := hx7 6 _ rfl
        have l7 := hx7 7 _ rfl
        clear hx7
        rw [decide_eq_true h3.out]
        go_wp2
        refine bodyPost_ret (v := .tuple #[.agg #[.int .i64 (b0.toNat : Int), .int .i64 (n2 : Int), .int .i64 (b5.toNat : Int), .int .i64 (n4 : Int), .int .i64 (n5 : Int), .int .i64 (n6 : Int), .int .i64 n7, .int .i64 (n8 : Int)], .bool true]) (by simp [results, Tryd.results16, go_sem, *]) rfl ?_
        exact ⟨rfl, (by repeat (first | with_reducible refine ofDrews ?_ _ | with_reducible exact HB7.out | with_reducible refine Below.setCell ?_ (by first | (simp; done) | (simp; omega) | omega) _))⟩
      · clear HC
        have h3 := Lib.hid h2
        clear h2
        have l0 := HX6.out 0 _ rfl
        have l1 := HX6.out 1 _ rfl
        have l2 := HX6.out 2 _ rfl
        have l3 := HX6.out 3 _ rfl
        have l4 := HX6.out 4 _ rfl
        have l5 := HX6.out 5 _ rfl
        have l6 := HX6.out 6 _ rfl
        have l7 := HX6.out 7 _ rfl
        go_wp2_with fail
        clear l0 l1 l2 l3 l4 l5 l6 l7
        refine (RE.out (by first | exact trivial | rfl) _).mono ?_
        rintro e w7 ⟨A7, c7, rfl, hown, hbel⟩
        rw [pencF_len] at hown ⊢
        have HO7 := Lib.hid hown
        have HB7 := Lib.hid (HB6.out.trans (hbel.mono HB6.out.size))
        have HR7 := Lib.hid (HR6.out.trans (hbel.mono (by omega)))
        have HX7 := Lib.hid (HX6.out.below hbel hw5)
        have hw7 : w.heap.size < w7.heap.size := Nat.lt_of_lt_of_le hw6 hbel.size
        have hw8 : bl < w7.heap.size := Nat.lt_of_lt_of_le hw5 hbel.size
        clear hown hbel
        go_wp2_with fail
        refine (eq_any (pencF ((b0.toNat : Int), (n2 : Int), (b5.toNat : Int), (n4 : Int), (n5 : Int), (n6 : Int), n7, (n8 : Int)) t) bs A7 A 64 64 c7 cap _ w.heap.size w7 HO7.out.byt (HY.out _ HB7.out) (by decide) (by decide)).mono ?_
        rintro e w' ⟨rfl, q, rfl⟩
        obtain ⟨hcc, hcf⟩ := cells_of_below HR7.out
        have hx7 := HX7.out
        have l0 := hx7 0 _ rfl
        have l1 := hx7 1 _ rfl
        have l2 := hx7 2 _ rfl
        have l3 := hx7 3 _ rfl
        have l4 := hx7 4 _ rfl
        have l5 := hx7 5 _ rfl
        have l6 := hx7 6 _ rfl
        have l7 := hx7 7 _ rfl
        clear hx7
        rw [decide_eq_false h3.out]
        go_wp2
        refine bodyPost_ret (v := .tuple #[.agg #[.int .i64 0, .int .i64 0, .int .i64 0, .int .i64 0, .int .i64 0, .int .i64 0, .int .i64 0, .int .i64 0], .bool false]) (by simp [results, Tryd.results16, go_sem, *]) rfl ?_
        exact ⟨rfl, (by repeat (first | with_reducible refine ofDrews ?_ _ | with_reducible exact HB7.out | with_reducible refine Below.setCell ?_ (by first | (simp; done) | (simp; omega) | omega) _))⟩
end Go.Proofs.YthjnbdbbeidhgaaDoor
