/- The walk of the law WireOwn. -/
import Derived.Test.YtmbelomekihdkaaWirePutLaw
import Derived.Deep.RegionWith
namespace Go.Proofs.Ytmbelomekihdkaa
open Go.RowKit

theorem Own.keepIn {w w2 : World} {base n : Nat} {e : TypeId} {v : Value} {bs : List UInt8} (h : Own w base e v n bs) (hk : ∀ b, base ≤ b → b < w.heap.size → w2.heap[b]? = w.heap[b]?) : Own w2 base e v n bs := by
  refine ⟨h.1, ?_⟩
  rcases h.2 with h0 | ⟨g, cap, cur, rfl, hbase, hh, r⟩
  · exact .inl h0
  · exact .inr ⟨g, cap, cur, rfl, hbase, (hk g hbase (h.lt rfl)).trans hh, r⟩
theorem Own.bytB {w w0 : World} {base n c : Nat} {e : TypeId} {A : Option Addr} {bs : List UInt8} (h : Own w base e (.slice A n c) n bs) (h0 : Own w0 base e (.slice A n c) n bs) : Byt w w0.heap.size A n bs := by
  refine ⟨h.len, fun hn => ?_⟩
  obtain ⟨ad, rfl, _, hc⟩ := h.byt.mem hn
  exact ⟨ad, rfl, h0.lt rfl, hc⟩

/-- A new reader, and what its memory is. -/
def NewRF (w : World) (bs : List UInt8) (e : Ending) (w' : World) : Prop :=
  ∃ g, e = .returned (.pointer (some ⟨g, 0, none⟩)) ∧ w.heap.size ≤ g ∧ Below w.heap.size w w' ∧ g < w'.heap.size ∧ (∀ w2 : World, (∀ b, w.heap.size ≤ b → b ≤ g → w2.heap[b]? = w'.heap[b]?) → Rdr w2 g bs false)
set_option maxHeartbeats 1000000 in
theorem newReader_from (bs : List UInt8) (A : Option Addr) (n cap B : Nat) (w : World) (hb : Byt w B A n bs) (hn : n ≤ 1000000) (hB : B ≤ w.heap.size) :
    Calls Try.prog 22 #[.slice A n cap] w (NewRF w bs) := by
  have CL := Lib.hid (clone_any bs A n cap B w hb (by omega) hB)
  clear hb
  go_enter Try.func22, Try.ntmps22
  go_wp2_with (go_at_call 33; refine CL.out.mono ?_; rintro e w1 ⟨A1, c1, rfl, hown, hbel⟩; have HO := Lib.hid hown; have HW := Lib.hid hbel; clear hown hbel)
  go_ret
  obtain ⟨_, _, hv, hc1, hc2⟩ := HO.out.form
  injection hv with hv1 hv2 hv3
  refine ⟨w1.heap.size, rfl, HW.out.size, HW.out.alloc HW.out.size _, by simp, fun w2 h2 => ?_⟩
  have hg : w2.heap[w1.heap.size]? = _ := (h2 w1.heap.size HW.out.size (Nat.le_refl _)).trans (heap_alloc_new w1 _)
  refine ⟨A1, n, c1, cell_of_row _ _ _ _ _ _ hg, cell_of_row _ _ _ _ _ _ hg, frozen_of_row _ _ _ _ _ hg, frozen_of_row _ _ _ _ _ hg, by omega, by omega, ?_⟩
  refine Own.bytB (HO.out.keepIn fun b hb1 hb2 => ?_) HO.out
  exact (h2 b hb1 (by omega)).trans (Below.heap_alloc w1 _ b hb2)

theorem Own.four (w : World) (e : TypeId) : Own (w.alloc (.cells #[.int .u8 1, .int .u8 2, .int .u8 3, .int .u8 4] e)) w.heap.size e (.slice (some ⟨w.heap.size, 0, none⟩) 4 4) 4 [1, 2, 3, 4] :=
  ⟨rfl, .inr ⟨w.heap.size, 4, #[.int .u8 1, .int .u8 2, .int .u8 3, .int .u8 4], rfl, Nat.le_refl _, heap_alloc_new w _, Nat.le_refl _, by decide, rfl, rfl⟩⟩

theorem setCell_heap (w : World) (a : Addr) (u : Value) (b : Nat) (h : b ≠ a.block) : (w.setCell a u).heap[b]? = w.heap[b]? := Below.heap_setCell w a u b h
theorem own_cap {w : World} {base n c : Nat} {e : TypeId} {A : Option Addr} {bs : List UInt8} (h : Own w base e (.slice A n c) n bs) : n ≤ c := by
  obtain ⟨_, _, hv, h2, _⟩ := h.form
  injection hv with _ _ hv
  rw [hv]; exact h2
theorem below_drewN'' {B : Nat} {a w : World} (h : Below B a w) (n : Nat) : Below B a (w.drewN n) := ⟨h.os, h.tape, h.output, h.size, h.block⟩

set_option maxHeartbeats 8000000 in
theorem wireOwn_any (bs : List UInt8) (A : Option Addr) (m cap : Nat) (w : World) (hb : Byt w w.heap.size A m bs) (hm : m ≤ cap) (hcap : cap ≤ 9223372036854775807) :
    Calls Try.prog 9 #[.slice A m cap] w fun e w' => e = .returned (.bool true) ∧ Below w.heap.size w w' := by
  have HB : Hid (∀ k w', k ≤ m → Below w.heap.size w w' → Byt w' w.heap.size A k (bs.take k)) := fun k w' hk hw => (hb.take hk).below hw
  clear hb
  by_cases h20 : m ≤ 10
  · go_enter Try.func9, Try.ntmps9
    go_wp2_with (first
      | (at_builtin; refine wpList_append_byt rfl Try.u8w (.tmp 7) (.tmp 12) rfl rfl (Own.four w _) rfl (HB.out m _ ?_ ((Below.refl _ _).alloc (Nat.le_refl _) _)) ?_ ?_ ?_; omega; omega; simp; intro A1 c1 w1 hown hbel; skip; have HO := Lib.hid hown; have HW := Lib.hid (((Below.refl _ _).alloc (Nat.le_refl _) _).trans hbel); clear hown hbel)
      | (at_builtin; refine wpList_append_byt rfl Try.u8w (.const (.slice none 0 0)) (.tmp 14) rfl rfl (Own.nil w1 w1.heap.size _) rfl HO.out.byt ?_ (Nat.le_refl _) ?_; omega; intro A2 c2 w2 hown hbel; simp only [Nat.zero_add, List.nil_append] at hown; have HQ := Lib.hid hown; have HO2 := Lib.hid (HO.out.keep hbel); have HW2 := Lib.hid (HW.out.trans (hbel.mono HW.out.size)); clear hown hbel))
    obtain ⟨tl, htl⟩ : ∃ tl, bs.take m = tl := ⟨_, rfl⟩
    rw [htl] at HO HO2 HQ
    clear htl
    have HLEN : Hid (([1, 2, 3, 4] ++ tl).length = 4 + m) := HQ.out.len
    obtain ⟨gb, hgb⟩ := HO.out.head (by omega)
    subst hgb
    have hgb1 : gb < w1.heap.size := HO.out.lt rfl
    have hgb0 : w.heap.size ≤ gb := HO.out.ge rfl
    have h12 : w1.heap.size ≤ w2.heap.size := by
      rcases Nat.lt_or_ge w2.heap.size w1.heap.size with h | h
      · exact absurd (HO2.out.lt (g := gb) rfl) (by have := HQ.out; have h2 := HQ.out.head (by omega); obtain ⟨g2, rfl⟩ := h2; have h3 := HQ.out.ge (g := g2) rfl; have h4 := HQ.out.lt (g := g2) rfl; omega)
      · exact h
    have hc2 := own_cap HQ.out
    obtain ⟨g2, hg2⟩ := HQ.out.head (by omega)
    subst hg2
    refine (newReader_from _ _ _ _ _ w2 HO2.out.byt (by omega) (Nat.le_refl _)).mono ?_
    rintro e w3 ⟨g, rfl, hg1, hb3, hg3, hfrom⟩
    have HO3 := Lib.hid (HO2.out.keep hb3)
    have HQ3 := Lib.hid (HQ.out.keep hb3)
    have HF := Lib.hid hfrom
    have HW3 := Lib.hid (HW2.out.trans (hb3.mono HW2.out.size))
    have h23 := hb3.size
    clear hb3 hfrom HO HO2
    obtain ⟨x2, _, hx2c, hx2f⟩ := HO3.out.at_ 2 (by omega)
    go_wp2_with fail
    obtain ⟨v4, hv4⟩ : ∃ v, v = (.int .u8 (((x2.toNat : Int) + 1) % 256) : Value) := ⟨_, rfl⟩
    rw [← hv4]
    clear hv4
    have HR4 : Hid (Rdr (w3.setCell ⟨gb, 2, none⟩ v4) g ([1, 2, 3, 4] ++ tl) false) := HF.out _ fun b hb1 hb2 => Below.heap_setCell _ _ _ _ (by show b ≠ gb; omega)
    have HQ4 : Hid (Own (w3.setCell ⟨gb, 2, none⟩ v4) w1.heap.size _ _ _ ([1, 2, 3, 4] ++ tl)) := HQ3.out.keepIn fun b hb1 hb2 => Below.heap_setCell _ _ _ _ (by show b ≠ gb; omega)
    have HW4 : Hid (Below w.heap.size w (w3.setCell ⟨gb, 2, none⟩ v4)) := HW3.out.setCell (by show w.heap.size ≤ gb; exact hgb0) _
    have hs4 : (w3.setCell ⟨gb, 2, none⟩ v4).heap.size = w3.heap.size := by simp [World.setCell]
    obtain ⟨w4, hw4⟩ : ∃ w4, w3.setCell ⟨gb, 2, none⟩ v4 = w4 := ⟨_, rfl⟩
    rw [hw4] at HR4 HQ4 HW4 hs4 ⊢
    clear hw4 hx2c hx2f HF HW3 HO3 HQ3
    refine (bytes_ok g 2 _ w4 HR4.out (by rw [HLEN.out]; omega) (by decide)).mono ?_
    rintro e w5 ⟨A5, c5, rfl, hown5, hr5, hgr5⟩
    have hO5 : Own w5 w4.heap.size _ (.slice A5 2 c5) 2 [1, 2] := hown5
    have HR5 : Hid (Rdr w5 g ([3, 4] ++ tl) false) := hr5
    have HO5 := Lib.hid hO5
    have HB45 := Lib.hid (only_below (B := w2.heap.size) hgr5 hg1 (by omega))
    have HQ5 := Lib.hid (HQ4.out.below HB45.out fun gg h => HQ.out.lt h)
    have HW5 := Lib.hid (HW4.out.trans (HB45.out.mono (Nat.le_trans HW.out.size h12)))
    have h45 : w4.heap.size ≤ w5.heap.size := hgr5.size
    have HE5 : Hid (([1, 2, 3, 4] ++ tl).take 2 = [1, 2]) := rfl
    rw [HE5.out]
    clear hown5 hr5 hgr5 hO5
    obtain ⟨gx, hgx⟩ := HO5.out.head (by omega)
    subst hgx
    have hgx0 : w4.heap.size ≤ gx := HO5.out.ge rfl
    obtain ⟨x5, _, hx5c, hx5f⟩ := HO5.out.at_ 0 (by omega)
    go_wp2_with fail
    obtain ⟨v6, hv6⟩ : ∃ v, v = (.int .u8 (((x5.toNat : Int) + 1) % 256) : Value) := ⟨_, rfl⟩
    rw [← hv6]
    clear hv6
    have HR6 : Hid (Rdr (w5.setCell ⟨gx, 0, none⟩ v6) g ([3, 4] ++ tl) false) := HR5.out.keep fun b hb1 => Below.heap_setCell _ _ _ _ (by show b ≠ gx; omega)
    have HB56 : Hid (Below w4.heap.size w5 (w5.setCell ⟨gx, 0, none⟩ v6)) := (Below.refl _ _).setCell (by show w4.heap.size ≤ gx; exact hgx0) _
    have HQ6 := Lib.hid (HQ5.out.below HB56.out fun gg h => by have := HQ.out.lt h; omega)
    have HW6 := Lib.hid (HW5.out.trans (HB56.out.mono HW4.out.size))
    obtain ⟨w6, hw6⟩ : ∃ w6, w5.setCell ⟨gx, 0, none⟩ v6 = w6 := ⟨_, rfl⟩
    have h56 := HB56.out.size
    rw [hw6] at HR6 HQ6 HW6 h56 ⊢
    clear hw6 hx5c hx5f HB56
    refine (zeros_nil 1 w6).mono ?_
    rintro e w' ⟨rfl, rfl⟩
    go_wp2_with fail
    obtain ⟨km, hkm⟩ : ∃ km : Nat, km = 4 + m - 2 := ⟨_, rfl⟩
    have HKM : Hid (([3, 4] ++ tl).length = km ∧ km ≤ 1000000) := ⟨by have := HLEN.out; simp at this ⊢; omega, by omega⟩
    have HTK : Hid (([3, 4] ++ tl).take km = [3, 4] ++ tl) := List.take_of_length_le (by rw [HKM.out.1]; exact Nat.le_refl _)
    have hwr : IntKind.i64.wrap (4 + (m : Int) - 2) = (km : Int) := by rw [IntWalk.i64_in _ (by omega)]; omega
    clear hkm
    have hc2b : ¬ c2 = 2 := by omega
    have HCW : Hid (∀ w', Own w' w1.heap.size 5 (.slice (some ⟨g2, 0, none⟩) (4 + m) c2) (4 + m) ([1, 2, 3, 4] ++ tl) → Byt w' w'.heap.size (some ⟨g2, 2, none⟩) (4 + m - 2) ([3, 4] ++ tl)) := fun w' h => by
      have := h.byt.cut (k := 2) (cap := c2) (by omega) (by omega)
      rw [if_neg hc2b] at this
      exact this
    go_region_with (first
      | (go_at_call 18
         refine (wireAwake_any _).mono ?_
         rintro e w7 ⟨rfl, hb7⟩
         have HR7 := Lib.hid ((HR6.out.drewN 1).below hb7 HR6.out.lt)
         have HQ7 := Lib.hid (((HQ6.out.drewN 1)).keep hb7)
         have HW7 := Lib.hid ((below_drewN'' HW6.out 1).trans (hb7.mono HW6.out.size))
         have HW67 : Hid (Below w6.heap.size w6 w7) := (below_drewN'' (Below.refl _ _) 1).trans hb7
         clear hb7)
      | (go_at_call 27
         with_reducible refine (bytes_ok g km ([3, 4] ++ tl) w7 HR7.out (by rw [HKM.out.1]; exact Nat.le_refl _) HKM.out.2).mono ?_
         rintro e w8 ⟨A8, c8, rfl, hown8, hr8, hgr8⟩
         rw [HTK.out, HKM.out.1] at hown8
         rw [HTK.out, HKM.out.1]
         have HO8 := Lib.hid hown8
         have hB := only_below (B := w2.heap.size) hgr8 hg1 (by have := HW67.out.size; omega)
         have HQ8 := Lib.hid (HQ7.out.below hB fun gg h => HQ.out.lt h)
         have HW8 := Lib.hid (HW7.out.trans (hB.mono (Nat.le_trans HW.out.size h12)))
         clear hown8 hr8 hgr8 hB)
      | (go_at_call 19
         with_reducible refine (eq_any _ _ _ _ _ _ _ _ _ _ w8 HO8.out.byt (HCW.out w8 HQ8.out) (own_le HO8.out) (by omega)).mono ?_
         rintro e w9 ⟨rfl, k9, rfl⟩
         rw [decide_eq_true rfl]
         have HW9 := Lib.hid (below_drewN'' HW8.out k9)
         clear HW8)
      | (go_at_call 23; refine (num_nil _).mono ?_; rintro e w' ⟨rfl, rfl⟩)
      | (go_at_call 27; with_reducible refine (bytes_nil 1 _).mono ?_; rintro e w10 ⟨A10, c10, rfl, hb10⟩; have HW10 := Lib.hid (HW9.out.trans (hb10.mono HW9.out.size)); clear hb10)
      | (go_at_call 24; refine (ok_nil _).mono ?_; rintro e w' ⟨rfl, rfl⟩)
      | (go_at_call 25; refine (rest_nil _).mono ?_; rintro e w' ⟨rfl, rfl⟩))
    all_goals (try go_wp2)
    all_goals (go_ret; exact ⟨rfl, HW10.out⟩)
  · go_enter Try.func9, Try.ntmps9
    go_wp2_with (first
      | (at_builtin; refine wpList_append_byt rfl Try.u8w (.tmp 7) (.tmp 12) rfl rfl (Own.four w _) rfl (HB.out 10 _ ?_ ((Below.refl _ _).alloc (Nat.le_refl _) _)) ?_ ?_ ?_; omega; omega; simp; intro A1 c1 w1 hown hbel; rw [show (4 : Nat) + 10 = 14 from rfl] at hown; have HO := Lib.hid hown; have HW := Lib.hid (((Below.refl _ _).alloc (Nat.le_refl _) _).trans hbel); clear hown hbel)
      | (at_builtin; refine wpList_append_byt rfl Try.u8w (.const (.slice none 0 0)) (.tmp 14) rfl rfl (Own.nil w1 w1.heap.size _) rfl HO.out.byt ?_ (Nat.le_refl _) ?_; omega; intro A2 c2 w2 hown hbel; simp only [Nat.zero_add, List.nil_append] at hown; have HQ := Lib.hid hown; have HO2 := Lib.hid (HO.out.keep hbel); have HW2 := Lib.hid (HW.out.trans (hbel.mono HW.out.size)); clear hown hbel))
    obtain ⟨tl, htl⟩ : ∃ tl, bs.take 10 = tl := ⟨_, rfl⟩
    rw [htl] at HO HO2 HQ
    clear htl
    have HLEN : Hid (([1, 2, 3, 4] ++ tl).length = 14) := HQ.out.len
    obtain ⟨gb, hgb⟩ := HO.out.head (by omega)
    subst hgb
    have hgb1 : gb < w1.heap.size := HO.out.lt rfl
    have hgb0 : w.heap.size ≤ gb := HO.out.ge rfl
    have h12 : w1.heap.size ≤ w2.heap.size := by
      rcases Nat.lt_or_ge w2.heap.size w1.heap.size with h | h
      · exact absurd (HO2.out.lt (g := gb) rfl) (by have := HQ.out; have h2 := HQ.out.head (by omega); obtain ⟨g2, rfl⟩ := h2; have h3 := HQ.out.ge (g := g2) rfl; have h4 := HQ.out.lt (g := g2) rfl; omega)
      · exact h
    have hc2 := own_cap HQ.out
    obtain ⟨g2, hg2⟩ := HQ.out.head (by omega)
    subst hg2
    refine (newReader_from _ _ _ _ _ w2 HO2.out.byt (by omega) (Nat.le_refl _)).mono ?_
    rintro e w3 ⟨g, rfl, hg1, hb3, hg3, hfrom⟩
    have HO3 := Lib.hid (HO2.out.keep hb3)
    have HQ3 := Lib.hid (HQ.out.keep hb3)
    have HF := Lib.hid hfrom
    have HW3 := Lib.hid (HW2.out.trans (hb3.mono HW2.out.size))
    have h23 := hb3.size
    clear hb3 hfrom HO HO2
    obtain ⟨x2, _, hx2c, hx2f⟩ := HO3.out.at_ 2 (by omega)
    go_wp2_with fail
    obtain ⟨v4, hv4⟩ : ∃ v, v = (.int .u8 (((x2.toNat : Int) + 1) % 256) : Value) := ⟨_, rfl⟩
    rw [← hv4]
    clear hv4
    have HR4 : Hid (Rdr (w3.setCell ⟨gb, 2, none⟩ v4) g ([1, 2, 3, 4] ++ tl) false) := HF.out _ fun b hb1 hb2 => Below.heap_setCell _ _ _ _ (by show b ≠ gb; omega)
    have HQ4 : Hid (Own (w3.setCell ⟨gb, 2, none⟩ v4) w1.heap.size _ _ _ ([1, 2, 3, 4] ++ tl)) := HQ3.out.keepIn fun b hb1 hb2 => Below.heap_setCell _ _ _ _ (by show b ≠ gb; omega)
    have HW4 : Hid (Below w.heap.size w (w3.setCell ⟨gb, 2, none⟩ v4)) := HW3.out.setCell (by show w.heap.size ≤ gb; exact hgb0) _
    have hs4 : (w3.setCell ⟨gb, 2, none⟩ v4).heap.size = w3.heap.size := by simp [World.setCell]
    obtain ⟨w4, hw4⟩ : ∃ w4, w3.setCell ⟨gb, 2, none⟩ v4 = w4 := ⟨_, rfl⟩
    rw [hw4] at HR4 HQ4 HW4 hs4 ⊢
    clear hw4 hx2c hx2f HF HW3 HO3 HQ3
    refine (bytes_ok g 2 _ w4 HR4.out (by rw [HLEN.out]; omega) (by decide)).mono ?_
    rintro e w5 ⟨A5, c5, rfl, hown5, hr5, hgr5⟩
    have hO5 : Own w5 w4.heap.size _ (.slice A5 2 c5) 2 [1, 2] := hown5
    have HR5 : Hid (Rdr w5 g ([3, 4] ++ tl) false) := hr5
    have HO5 := Lib.hid hO5
    have HB45 := Lib.hid (only_below (B := w2.heap.size) hgr5 hg1 (by omega))
    have HQ5 := Lib.hid (HQ4.out.below HB45.out fun gg h => HQ.out.lt h)
    have HW5 := Lib.hid (HW4.out.trans (HB45.out.mono (Nat.le_trans HW.out.size h12)))
    have h45 : w4.heap.size ≤ w5.heap.size := hgr5.size
    have HE5 : Hid (([1, 2, 3, 4] ++ tl).take 2 = [1, 2]) := rfl
    rw [HE5.out]
    clear hown5 hr5 hgr5 hO5
    obtain ⟨gx, hgx⟩ := HO5.out.head (by omega)
    subst hgx
    have hgx0 : w4.heap.size ≤ gx := HO5.out.ge rfl
    obtain ⟨x5, _, hx5c, hx5f⟩ := HO5.out.at_ 0 (by omega)
    go_wp2_with fail
    obtain ⟨v6, hv6⟩ : ∃ v, v = (.int .u8 (((x5.toNat : Int) + 1) % 256) : Value) := ⟨_, rfl⟩
    rw [← hv6]
    clear hv6
    have HR6 : Hid (Rdr (w5.setCell ⟨gx, 0, none⟩ v6) g ([3, 4] ++ tl) false) := HR5.out.keep fun b hb1 => Below.heap_setCell _ _ _ _ (by show b ≠ gx; omega)
    have HB56 : Hid (Below w4.heap.size w5 (w5.setCell ⟨gx, 0, none⟩ v6)) := (Below.refl _ _).setCell (by show w4.heap.size ≤ gx; exact hgx0) _
    have HQ6 := Lib.hid (HQ5.out.below HB56.out fun gg h => by have := HQ.out.lt h; omega)
    have HW6 := Lib.hid (HW5.out.trans (HB56.out.mono HW4.out.size))
    obtain ⟨w6, hw6⟩ : ∃ w6, w5.setCell ⟨gx, 0, none⟩ v6 = w6 := ⟨_, rfl⟩
    have h56 := HB56.out.size
    rw [hw6] at HR6 HQ6 HW6 h56 ⊢
    clear hw6 hx5c hx5f HB56
    refine (zeros_nil 1 w6).mono ?_
    rintro e w' ⟨rfl, rfl⟩
    go_wp2_with fail
    obtain ⟨km, hkm⟩ : ∃ km : Nat, km = 14 - 2 := ⟨_, rfl⟩
    have HKM : Hid (([3, 4] ++ tl).length = km ∧ km ≤ 1000000) := ⟨by have := HLEN.out; simp at this ⊢; omega, by omega⟩
    have HTK : Hid (([3, 4] ++ tl).take km = [3, 4] ++ tl) := List.take_of_length_le (by rw [HKM.out.1]; exact Nat.le_refl _)
    have hwr : IntKind.i64.wrap 12 = (km : Int) := by rw [IntWalk.i64_in _ (by omega)]; omega
    clear hkm
    have hc2b : ¬ c2 = 2 := by omega
    have HCW : Hid (∀ w', Own w' w1.heap.size 5 (.slice (some ⟨g2, 0, none⟩) (14) c2) (14) ([1, 2, 3, 4] ++ tl) → Byt w' w'.heap.size (some ⟨g2, 2, none⟩) (14 - 2) ([3, 4] ++ tl)) := fun w' h => by
      have := h.byt.cut (k := 2) (cap := c2) (by omega) (by omega)
      rw [if_neg hc2b] at this
      exact this
    go_region_with (first
      | (go_at_call 18
         refine (wireAwake_any _).mono ?_
         rintro e w7 ⟨rfl, hb7⟩
         have HR7 := Lib.hid ((HR6.out.drewN 1).below hb7 HR6.out.lt)
         have HQ7 := Lib.hid (((HQ6.out.drewN 1)).keep hb7)
         have HW7 := Lib.hid ((below_drewN'' HW6.out 1).trans (hb7.mono HW6.out.size))
         have HW67 : Hid (Below w6.heap.size w6 w7) := (below_drewN'' (Below.refl _ _) 1).trans hb7
         clear hb7)
      | (go_at_call 27
         with_reducible refine (bytes_ok g km ([3, 4] ++ tl) w7 HR7.out (by rw [HKM.out.1]; exact Nat.le_refl _) HKM.out.2).mono ?_
         rintro e w8 ⟨A8, c8, rfl, hown8, hr8, hgr8⟩
         rw [HTK.out, HKM.out.1] at hown8
         rw [HTK.out, HKM.out.1]
         have HO8 := Lib.hid hown8
         have hB := only_below (B := w2.heap.size) hgr8 hg1 (by have := HW67.out.size; omega)
         have HQ8 := Lib.hid (HQ7.out.below hB fun gg h => HQ.out.lt h)
         have HW8 := Lib.hid (HW7.out.trans (hB.mono (Nat.le_trans HW.out.size h12)))
         clear hown8 hr8 hgr8 hB)
      | (go_at_call 19
         with_reducible refine (eq_any _ _ _ _ _ _ _ _ _ _ w8 HO8.out.byt (HCW.out w8 HQ8.out) (own_le HO8.out) (by omega)).mono ?_
         rintro e w9 ⟨rfl, k9, rfl⟩
         rw [decide_eq_true rfl]
         have HW9 := Lib.hid (below_drewN'' HW8.out k9)
         clear HW8)
      | (go_at_call 23; refine (num_nil _).mono ?_; rintro e w' ⟨rfl, rfl⟩)
      | (go_at_call 27; with_reducible refine (bytes_nil 1 _).mono ?_; rintro e w10 ⟨A10, c10, rfl, hb10⟩; have HW10 := Lib.hid (HW9.out.trans (hb10.mono HW9.out.size)); clear hb10)
      | (go_at_call 24; refine (ok_nil _).mono ?_; rintro e w' ⟨rfl, rfl⟩)
      | (go_at_call 25; refine (rest_nil _).mono ?_; rintro e w' ⟨rfl, rfl⟩))
    all_goals (try go_wp2)
    all_goals (go_ret; exact ⟨rfl, HW10.out⟩)
end Go.Proofs.Ytmbelomekihdkaa
