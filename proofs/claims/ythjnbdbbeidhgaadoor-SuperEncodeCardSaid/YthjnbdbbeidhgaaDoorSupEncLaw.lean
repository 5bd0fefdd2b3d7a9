/- SuperEncode (tools/mksuplaw3.py). -/
import Derived.Test.YthjnbdbbeidhgaaDoorSupAwake
import Derived.Test.YthjnbdbbeidhgaaDoorSupREnc
namespace Go.Proofs.YthjnbdbbeidhgaaDoor
open Go.RowKit Go.Sort

theorem senc_cases (s : Su) (t : Int) (la : List UInt8) (ea : Int) (sv : Bool) (hv : svalid s = sv) (h : sencS s t = (la, ea)) :
    (sv = false ∧ ea = 4 ∧ la = []) ∨ (sv = true ∧ (t < 0 ∨ 1048576 ≤ t) ∧ ea = 2 ∧ la = []) ∨ (sv = true ∧ 0 ≤ t ∧ t < 1048576 ∧ ea = 0 ∧ sencF s t = la ∧ sdecW sread t la = some s) := by
  subst hv
  cases hv : svalid s
  · rw [sencS_bad hv] at h; obtain ⟨rfl, rfl⟩ := Prod.mk.inj h; exact .inl ⟨rfl, rfl, rfl⟩
  · by_cases hm : may 3 0 t = true
    · rw [sencS_ok hv hm] at h
      obtain ⟨rfl, rfl⟩ := Prod.mk.inj h
      have := (may_iff _ _ _).1 hm
      exact .inr (.inr ⟨rfl, by omega, by omega, rfl, rfl, sdec_enc hv hm⟩)
    · have hm' : may 3 0 t = false := by simpa using hm
      rw [sencS_range hv hm'] at h
      obtain ⟨rfl, rfl⟩ := Prod.mk.inj h
      refine .inr (.inl ⟨rfl, ?_, rfl, rfl⟩)
      by_cases h : t < 0 ∨ 1048576 ≤ t
      · exact h
      · exact absurd ((may_iff 3 0 t).2 (by omega)) hm

set_option maxRecDepth 100000 in
set_option maxHeartbeats 16000000 in
theorem superEncode_any (g p m t n a1 b1 c1 d1 a2 b2 c2 d2 : Int) (sc : Int) (fs : List Ly) (A : Option Addr) (k c : Nat) (w : World) (ht : TabAt w) (h0 : 0 < w.heap.size) (hx : LAt w w.heap.size A k fs) (hk : k ≤ c) (hc : c ≤ 9223372036854775807) (hok : ∀ l ∈ fs, l.ok)
    (i1 : I64 a1) (i2 : I64 b1) (i3 : I64 c1) (i4 : I64 d1) (i5 : I64 a2) (i6 : I64 b2) (i7 : I64 c2) (i8 : I64 d2) :
    Calls Tryd.prog 5 #[.agg #[.int .i64 g, .int .i64 p, .int .i64 m, .int .i64 t, .int .i64 n, .int .i64 a1, .int .i64 b1, .int .i64 c1, .int .i64 d1, .int .i64 a2, .int .i64 b2, .int .i64 c2, .int .i64 d2, .slice A k c], .int .i64 sc] w fun e w' => e = .returned (.bool true) ∧ Below w.heap.size w w' := by
  have HT : Hid (∀ w', Below w.heap.size w w' → TabAt w' ∧ 0 < w'.heap.size) := fun w' hw => ⟨ht.below hw h0, Nat.lt_of_lt_of_le h0 hw.size⟩
  obtain ⟨mk, hmk, hmk1, hmk4⟩ := slen k 4
  have SHa := Lib.hid (sshort_any g p m t n a1 b1 c1 d1 a2 b2 c2 d2 A k c mk hk hc hmk)
  obtain ⟨gs, hgs⟩ : ∃ gs, fs.take mk = gs := ⟨_, rfl⟩
  have HLa : Hid (∀ w', Below w.heap.size w w' → LAt w' w.heap.size A mk gs) := fun w' hb => by rw [← hgs]; exact (hx.take hmk1).below hb
  have HOa : Hid (∀ l ∈ gs, l.ok) := fun l hl => hok l (List.mem_of_mem_take (by rw [hgs]; exact hl))
  have HI := Lib.hid (And.intro (And.intro i1 (And.intro i2 (And.intro i3 i4))) (And.intro i5 (And.intro i6 (And.intro i7 i8))))
  have hkc : mk ≤ c := by omega
  have HB0 := Lib.hid (below_al w (.cells #[.int .i64 g, .int .i64 p, .int .i64 m, .int .i64 t, .int .i64 n, .int .i64 a1, .int .i64 b1, .int .i64 c1, .int .i64 d1, .int .i64 a2, .int .i64 b2, .int .i64 c2, .int .i64 d2, .slice A k c] 41))
  have HX0 := Lib.hid (Cells.new w 41 #[.int .i64 g, .int .i64 p, .int .i64 m, .int .i64 t, .int .i64 n, .int .i64 a1, .int .i64 b1, .int .i64 c1, .int .i64 d1, .int .i64 a2, .int .i64 b2, .int .i64 c2, .int .i64 d2, .slice A k c])
  have HSX0 := Lib.hid (Soft.new w 41 #[.int .i64 g, .int .i64 p, .int .i64 m, .int .i64 t, .int .i64 n, .int .i64 a1, .int .i64 b1, .int .i64 c1, .int .i64 d1, .int .i64 a2, .int .i64 b2, .int .i64 c2, .int .i64 d2, .slice A k c])
  clear ht h0 hx hok hgs hmk i1 i2 i3 i4 i5 i6 i7 i8
  go_enter Tryd.func5, Tryd.ntmps5
  go_upto_region 1 with fail
  go_cut [] (fun wx => Cells wx w.heap.size [.int .i64 g, .int .i64 p, .int .i64 m, .int .i64 t, .int .i64 n, .int .i64 a1, .int .i64 b1, .int .i64 c1, .int .i64 d1, .int .i64 a2, .int .i64 b2, .int .i64 c2, .int .i64 d2, .slice A mk c] ∧ Below w.heap.size w wx)
  case first =>
    go_wp2_with (go_at_call 18; refine (SHa.out _).mono ?_; rintro e w1 ⟨rfl, hbel⟩; have HB1 : Hid (Below w.heap.size w w1) := HB0.out.trans (hbel.mono HB0.out.size); have HX1 : Hid (Cells w1 w.heap.size [.int .i64 g, .int .i64 p, .int .i64 m, .int .i64 t, .int .i64 n, .int .i64 a1, .int .i64 b1, .int .i64 c1, .int .i64 d1, .int .i64 a2, .int .i64 b2, .int .i64 c2, .int .i64 d2, .slice A k c]) := HX0.out.below hbel (by simp); have HSX1 : Hid (Soft w1 w.heap.size) := HSX0.out.same (hbel.block w.heap.size (by simp)); have l0 := HX1.out 0 _ rfl; have l1 := HX1.out 1 _ rfl; have l2 := HX1.out 2 _ rfl; have l3 := HX1.out 3 _ rfl; have l4 := HX1.out 4 _ rfl; have l5 := HX1.out 5 _ rfl; have l6 := HX1.out 6 _ rfl; have l7 := HX1.out 7 _ rfl; have l8 := HX1.out 8 _ rfl; have l9 := HX1.out 9 _ rfl; have l10 := HX1.out 10 _ rfl; have l11 := HX1.out 11 _ rfl; have l12 := HX1.out 12 _ rfl; have l13 := HX1.out 13 _ rfl; have fl0 := HSX1.out 0; have fl1 := HSX1.out 1; have fl2 := HSX1.out 2; have fl3 := HSX1.out 3; have fl4 := HSX1.out 4; have fl5 := HSX1.out 5; have fl6 := HSX1.out 6; have fl7 := HSX1.out 7; have fl8 := HSX1.out 8; have fl9 := HSX1.out 9; have fl10 := HSX1.out 10; have fl11 := HSX1.out 11; have fl12 := HSX1.out 12; have fl13 := HSX1.out 13; clear hbel)
    (try go_simp)
    go_meet
    exact ⟨cells_set14 HX1.out, HB1.out.trans (below_set14 (Nat.le_refl _))⟩
  case rest =>
    obtain ⟨hca, hbel⟩ := hcut
    have HXa := Lib.hid hca
    have HB3 := Lib.hid hbel
    clear hca hbel HX0 HSX0 HB0 SHa
    obtain ⟨w3, hw3⟩ : ∃ x, x = wc := ⟨_, rfl⟩
    subst hw3
    obtain ⟨⟨la, ea⟩, hra⟩ : ∃ r, sencS ⟨g, p, m, t, n, ⟨a1, b1, c1, d1⟩, ⟨a2, b2, c2, d2⟩, gs⟩ sc = r := ⟨_, rfl⟩
    obtain ⟨sv, hsv⟩ : ∃ sv, svalid ⟨g, p, m, t, n, ⟨a1, b1, c1, d1⟩, ⟨a2, b2, c2, d2⟩, gs⟩ = sv := ⟨_, rfl⟩
    have HC := Lib.hid (senc_cases _ _ _ _ _ hsv hra)
    have HV := Lib.hid hsv
    have HRA := Lib.hid hra
    have AW := Lib.hid (fun (u : World) (hu : Below w.heap.size w u) => sAwake_any u (HT.out _ hu).1 (HT.out _ hu).2)
    have hsz : w.heap.size < w3.heap.size := HXa.out.lt
    clear hra hsv
    have xx0 := HXa.out 0 _ rfl
    have xx1 := HXa.out 1 _ rfl
    have xx2 := HXa.out 2 _ rfl
    have xx3 := HXa.out 3 _ rfl
    have xx4 := HXa.out 4 _ rfl
    have xx5 := HXa.out 5 _ rfl
    have xx6 := HXa.out 6 _ rfl
    have xx7 := HXa.out 7 _ rfl
    have xx8 := HXa.out 8 _ rfl
    have xx9 := HXa.out 9 _ rfl
    have xx10 := HXa.out 10 _ rfl
    have xx11 := HXa.out 11 _ rfl
    have xx12 := HXa.out 12 _ rfl
    have xx13 := HXa.out 13 _ rfl
    go_wp2_with fail
    refine (sencode_any g p m t n a1 b1 c1 d1 a2 b2 c2 d2 sc gs A mk c w.heap.size _ (HLa.out _ HB3.out) hkc (by omega) HB3.out.size HOa.out HI.out.1.1 HI.out.1.2.1 HI.out.1.2.2.1 HI.out.1.2.2.2 HI.out.2.1 HI.out.2.2.1 HI.out.2.2.2.1 HI.out.2.2.2.2 (HT.out _ HB3.out).1 (HT.out _ HB3.out).2 _ HRA.out).mono ?_
    rintro e w4 ⟨A4, c4, rfl, hown, hbel⟩
    simp only at hown ⊢
    have HO4 := Lib.hid hown
    have HB4 := Lib.hid (HB3.out.trans (hbel.mono HB3.out.size))
    have HX4 := Lib.hid (HXa.out.below hbel hsz)
    have hw4 : w.heap.size < w4.heap.size := Nat.lt_of_lt_of_le hsz hbel.size
    clear hown hbel xx0 xx1 xx2 xx3 xx4 xx5 xx6 xx7 xx8 xx9 xx10 xx11 xx12 xx13
    have yy0 := HX4.out 0 _ rfl
    have yy1 := HX4.out 1 _ rfl
    have yy2 := HX4.out 2 _ rfl
    have yy3 := HX4.out 3 _ rfl
    have yy4 := HX4.out 4 _ rfl
    have yy5 := HX4.out 5 _ rfl
    have yy6 := HX4.out 6 _ rfl
    have yy7 := HX4.out 7 _ rfl
    have yy8 := HX4.out 8 _ rfl
    have yy9 := HX4.out 9 _ rfl
    have yy10 := HX4.out 10 _ rfl
    have yy11 := HX4.out 11 _ rfl
    have yy12 := HX4.out 12 _ rfl
    have yy13 := HX4.out 13 _ rfl
    go_wp2_with fail
    refine (refSValid_any g p m t n a1 b1 c1 d1 a2 b2 c2 d2 gs A mk c w.heap.size w4 (HLa.out _ HB4.out) (by omega) HB4.out.size HOa.out HI.out.1.1 HI.out.1.2.1 HI.out.1.2.2.1 HI.out.1.2.2.2 HI.out.2.1 HI.out.2.2.1 HI.out.2.2.2.1 HI.out.2.2.2.2 sv HV.out).mono ?_
    rintro e w5 ⟨rfl, hbel⟩
    have HO5 := Lib.hid (HO4.out.keep hbel)
    have HB5 := Lib.hid (HB4.out.trans (hbel.mono HB4.out.size))
    have HX5 := Lib.hid (HX4.out.below hbel hw4)
    have hw5 : w.heap.size < w5.heap.size := Nat.lt_of_lt_of_le hw4 hbel.size
    clear hbel yy0 yy1 yy2 yy3 yy4 yy5 yy6 yy7 yy8 yy9 yy10 yy11 yy12 yy13
    rcases HC.out with ⟨rfl, rfl, rfl⟩ | ⟨rfl, hsc, rfl, rfl⟩ | ⟨rfl, hs0, hs1, rfl, hx, hdx⟩
    · clear HC
      go_wp2_with fail
      refine (AW.out _ HB5.out).mono ?_
      rintro e w6 ⟨rfl, hbel⟩
      have HB6 := Lib.hid (HB5.out.trans (hbel.mono HB5.out.size))
      clear hbel
      go_wp2
      go_ret
      exact ⟨rfl, HB6.out⟩
    · clear HC
      rcases Int.lt_or_le sc 0 with q | q
      · skip
        go_wp2_with fail
        refine (AW.out _ HB5.out).mono ?_
        rintro e w6 ⟨rfl, hbel⟩
        have HB6 := Lib.hid (HB5.out.trans (hbel.mono HB5.out.size))
        clear hbel
        go_wp2
        go_ret
        exact ⟨rfl, HB6.out⟩
      · have q2 : 1048576 ≤ sc := by omega
        go_wp2_with fail
        refine (AW.out _ HB5.out).mono ?_
        rintro e w6 ⟨rfl, hbel⟩
        have HB6 := Lib.hid (HB5.out.trans (hbel.mono HB5.out.size))
        clear hbel
        go_wp2
        go_ret
        exact ⟨rfl, HB6.out⟩
    · clear HC
      have hxl : la.length = 64 := by rw [← hx]; exact sencF_len _ _
      rw [hxl] at HO5 ⊢
      obtain ⟨_, _, hvv, hc1, hc2⟩ := HO5.out.form
      injection hvv with hv1 hv2 hv3
      subst hv3
      have HXL := Lib.hid hxl
      have RE : Hid (∀ u : World, Below w.heap.size w u → Calls Tryd.prog 23 #[.agg #[.int .i64 g, .int .i64 p, .int .i64 m, .int .i64 t, .int .i64 n, .int .i64 a1, .int .i64 b1, .int .i64 c1, .int .i64 d1, .int .i64 a2, .int .i64 b2, .int .i64 c2, .int .i64 d2, .slice A mk c], .int .i64 sc] u (PutRes u.heap.size la u)) := fun u hu => by
        have e : ((sc.toNat : Nat) : Int) = sc := by omega
        have h := srencode_any g p m t n a1 b1 c1 d1 a2 b2 c2 d2 sc.toNat gs A mk c w.heap.size u (HLa.out _ hu) hkc hu.size HV.out (by omega) la hx
        rwa [e] at h
      have DE : Hid (∀ wx, Below w.heap.size w wx → Byt wx wx.heap.size A4 64 la → Calls Tryd.prog 22 #[.slice A4 64 c4, .int .i64 sc] wx fun e w' => ∃ A2 k2 e2, e = .returned (.tuple #[.agg #[.int .i64 g, .int .i64 p, .int .i64 m, .int .i64 t, .int .i64 n, .int .i64 a1, .int .i64 b1, .int .i64 c1, .int .i64 d1, .int .i64 a2, .int .i64 b2, .int .i64 c2, .int .i64 d2, .slice A2 k2 e2], .bool true]) ∧ LAt w' w'.heap.size A2 k2 gs ∧ k2 ≤ e2 ∧ e2 ≤ 2 ∧ Below wx.heap.size wx w') := fun wx hb hby => by
        refine (sdecode_any sc la A4 64 c4 wx.heap.size wx (HT.out _ hb).1 (HT.out _ hb).2 hby hc1 hc2 (Nat.le_refl _) _ hdx).mono ?_
        rintro e w' ⟨A2, k2, e2, rfl, hl, h3, h4, hbel⟩
        exact ⟨A2, k2, e2, rfl, hl, h3, h4, hbel⟩
      clear hx hdx hxl hv1 hv2
      go_wp2_with fail
      refine (DE.out _ HB5.out HO5.out.byt).mono ?_
      rintro e w6 ⟨A2, k2, e2, rfl, hl, h3, h4, hbel⟩
      have HLt6 := Lib.hid hl
      have HKE := Lib.hid (And.intro h3 h4)
      have HB6 := Lib.hid (HB5.out.trans (hbel.mono HB5.out.size))
      have HX6 := Lib.hid (HX5.out.below hbel hw5)
      have HO6 := Lib.hid (HO5.out.keep hbel)
      have hw6 : w.heap.size < w6.heap.size := Nat.lt_of_lt_of_le hw5 hbel.size
      clear hl h3 h4 hbel
      have HL7 := Lib.hid (below_al w6 (.cells #[.int .i64 g, .int .i64 p, .int .i64 m, .int .i64 t, .int .i64 n, .int .i64 a1, .int .i64 b1, .int .i64 c1, .int .i64 d1, .int .i64 a2, .int .i64 b2, .int .i64 c2, .int .i64 d2, .slice A2 k2 e2] 41))
      have HB7 := Lib.hid (HB6.out.trans (HL7.out.mono HB6.out.size))
      have HX7 := Lib.hid (HX6.out.below HL7.out hw6)
      have HO7 := Lib.hid (HO6.out.keep HL7.out)
      have HZ7 := Lib.hid (Cells.new w6 41 #[.int .i64 g, .int .i64 p, .int .i64 m, .int .i64 t, .int .i64 n, .int .i64 a1, .int .i64 b1, .int .i64 c1, .int .i64 d1, .int .i64 a2, .int .i64 b2, .int .i64 c2, .int .i64 d2, .slice A2 k2 e2])
      go_wp2_with (first
        | (go_at_call 21; refine (AW.out _ HB7.out).mono ?_; rintro e w8 ⟨rfl, hbel⟩; have HL8 := Lib.hid (HL7.out.trans (hbel.mono HL7.out.size)); have HB8 := Lib.hid (HB7.out.trans (hbel.mono HB7.out.size)); have HX8 := Lib.hid (HX7.out.below hbel (by simp; omega)); have HZ8 := Lib.hid (HZ7.out.below hbel (by simp)); have HO8 := Lib.hid (HO7.out.keep hbel); have hw8 : w6.heap.size < w8.heap.size := (by have := hbel.size; simp at this; omega); have pp0 := HX8.out 0 _ rfl; have pp1 := HX8.out 1 _ rfl; have pp2 := HX8.out 2 _ rfl; have pp3 := HX8.out 3 _ rfl; have pp4 := HX8.out 4 _ rfl; have pp5 := HX8.out 5 _ rfl; have pp6 := HX8.out 6 _ rfl; have pp7 := HX8.out 7 _ rfl; have pp8 := HX8.out 8 _ rfl; have pp9 := HX8.out 9 _ rfl; have pp10 := HX8.out 10 _ rfl; have pp11 := HX8.out 11 _ rfl; have pp12 := HX8.out 12 _ rfl; have pp13 := HX8.out 13 _ rfl; clear hbel)
        | (go_at_call 23; refine (RE.out _ HB8.out).mono ?_; rintro e w9 ⟨A7, c7, rfl, hown, hbel⟩; rw [HXL.out] at hown ⊢; have HO9 := Lib.hid hown; have HO8b := Lib.hid (HO8.out.keep hbel); have HL9 := Lib.hid (HL8.out.trans (hbel.mono HL8.out.size)); have HB9 := Lib.hid (HB8.out.trans (hbel.mono HB8.out.size)); have HX9 := Lib.hid (HX8.out.below hbel (by omega)); have HZ9 := Lib.hid (HZ8.out.below hbel hw8); clear hown hbel)
        | (go_at_call 14; refine (eq_any la la A4 A7 64 64 c4 c7 _ _ _ HO8b.out.byt HO9.out.byt (by decide) (by decide)).mono ?_; rintro e w' ⟨rfl, q, rfl⟩; rw [decide_eq_true rfl]; have HL10 : Hid (Below w6.heap.size w6 (w9.drewN q)) := ofDrewN HL9.out q; have HB10 : Hid (Below w.heap.size w (w9.drewN q)) := ofDrewN HB9.out q; have HX10 : Hid (Cells (w9.drewN q) w.heap.size [.int .i64 g, .int .i64 p, .int .i64 m, .int .i64 t, .int .i64 n, .int .i64 a1, .int .i64 b1, .int .i64 c1, .int .i64 d1, .int .i64 a2, .int .i64 b2, .int .i64 c2, .int .i64 d2, .slice A mk c]) := HX9.out; have HZ10 : Hid (Cells (w9.drewN q) w6.heap.size [.int .i64 g, .int .i64 p, .int .i64 m, .int .i64 t, .int .i64 n, .int .i64 a1, .int .i64 b1, .int .i64 c1, .int .i64 d1, .int .i64 a2, .int .i64 b2, .int .i64 c2, .int .i64 d2, .slice A2 k2 e2]) := HZ9.out; have rr0 := HX10.out 0 _ rfl; have rr1 := HX10.out 1 _ rfl; have rr2 := HX10.out 2 _ rfl; have rr3 := HX10.out 3 _ rfl; have rr4 := HX10.out 4 _ rfl; have rr5 := HX10.out 5 _ rfl; have rr6 := HX10.out 6 _ rfl; have rr7 := HX10.out 7 _ rfl; have rr8 := HX10.out 8 _ rfl; have rr9 := HX10.out 9 _ rfl; have rr10 := HX10.out 10 _ rfl; have rr11 := HX10.out 11 _ rfl; have rr12 := HX10.out 12 _ rfl; have rr13 := HX10.out 13 _ rfl; have ss0 := HZ10.out 0 _ rfl; have ss1 := HZ10.out 1 _ rfl; have ss2 := HZ10.out 2 _ rfl; have ss3 := HZ10.out 3 _ rfl; have ss4 := HZ10.out 4 _ rfl; have ss5 := HZ10.out 5 _ rfl; have ss6 := HZ10.out 6 _ rfl; have ss7 := HZ10.out 7 _ rfl; have ss8 := HZ10.out 8 _ rfl; have ss9 := HZ10.out 9 _ rfl; have ss10 := HZ10.out 10 _ rfl; have ss11 := HZ10.out 11 _ rfl; have ss12 := HZ10.out 12 _ rfl; have ss13 := HZ10.out 13 _ rfl)
        | (go_at_call 24; refine (refSEq_any g p m t n a1 b1 c1 d1 a2 b2 c2 d2 g p m t n a1 b1 c1 d1 a2 b2 c2 d2 gs gs A2 A k2 e2 mk c w6.heap.size w.heap.size _ (HLt6.out.below HL10.out) (HLa.out _ HB10.out) (by have := HKE.out; omega) (by omega) HL10.out.size HB10.out.size true (decide_eq_true rfl)).mono ?_; rintro e w11 ⟨rfl, hbel⟩; have HB11 := Lib.hid (HB10.out.trans (hbel.mono HB10.out.size)); clear hbel))
      go_ret
      exact ⟨rfl, HB11.out⟩
end Go.Proofs.YthjnbdbbeidhgaaDoor
