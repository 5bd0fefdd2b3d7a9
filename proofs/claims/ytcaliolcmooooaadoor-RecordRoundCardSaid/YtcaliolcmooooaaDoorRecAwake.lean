/- The walks of the records' Awake and Short. -/
import Derived.Test.YtcaliolcmooooaaDoorRecDecAll
import Derived.Test.YtcaliolcmooooaaDoorAppKeep
import Derived.Lib.SlBytesConst
namespace Go.Proofs.YtcaliolcmooooaaDoor
open Go.RowKit

/-- A record's block, written anew. -/
theorem box_set {v : World} {g : Nat} {ki0 ex0 ki ex : Int} {Ak0 Av0 Ak Av : Option Addr} {nk0 ck0 nv0 cv0 nk ck nv cv : Nat} (h : BoxR v g ki0 Ak0 nk0 ck0 Av0 nv0 cv0 ex0) :
    ∀ v', v' = (((v.setCell ⟨g, 0, none⟩ (.int .i64 ki)).setCell ⟨g, 1, none⟩ (.slice Ak nk ck)).setCell ⟨g, 2, none⟩ (.slice Av nv cv)).setCell ⟨g, 3, none⟩ (.int .i64 ex) → BoxR v' g ki Ak nk ck Av nv cv ex ∧ v'.heap.size = v.heap.size ∧ (∀ B, B ≤ g → Below B v v') := by
  rintro _ rfl
  have ot : ∀ (u : World) (i j : Nat) (x : Value), i ≠ j → (u.setCell ⟨g, i, none⟩ x).cell? ⟨g, j, none⟩ = u.cell? ⟨g, j, none⟩ := fun u i j x hij => World.cell?_setCell_other _ _ _ _ (fun e => by injection e; omega)
  refine ⟨⟨?_, ?_, ?_, ?_⟩, by simp [World.setCell], fun B hB => Below.setCell (Below.setCell (Below.setCell (Below.setCell (Below.refl _ _) hB _) hB _) hB _) hB _⟩
  · rw [ot _ 3 0 _ (by decide), ot _ 2 0 _ (by decide), ot _ 1 0 _ (by decide)]; exact World.cell?_setCell_same _ _ _ h.1
  · rw [ot _ 3 1 _ (by decide), ot _ 2 1 _ (by decide)]; exact World.cell?_setCell_same _ _ _ ((ot _ 0 1 _ (by decide)).trans h.2.1)
  · rw [ot _ 3 2 _ (by decide)]; exact World.cell?_setCell_same _ _ _ ((ot _ 1 2 _ (by decide)).trans ((ot _ 0 2 _ (by decide)).trans h.2.2.1))
  · exact World.cell?_setCell_same _ _ _ ((ot _ 2 3 _ (by decide)).trans ((ot _ 1 3 _ (by decide)).trans ((ot _ 0 3 _ (by decide)).trans h.2.2.2)))

set_option maxHeartbeats 4000000 in
theorem short_any (ki ex : Int) (Ak Av : Option Addr) (nk ck nv cv mk mv : Nat) (hk : nk ≤ ck) (hv : nv ≤ cv) (hck : ck ≤ 9223372036854775807) (hcv : cv ≤ 9223372036854775807) (hmk : (nk ≤ 260 ∧ mk = nk) ∨ (260 < nk ∧ mk = 260)) (hmv : (nv ≤ 200 ∧ mv = nv) ∨ (200 < nv ∧ mv = 200)) (w : World) :
    Calls Tryd.prog 10 #[.agg #[.int .i64 ki, .slice Ak nk ck, .slice Av nv cv, .int .i64 ex]] w fun e w' => e = .returned (.agg #[.int .i64 ki, .slice Ak mk ck, .slice Av mv cv, .int .i64 ex]) ∧ Below w.heap.size w w' := by
  rcases hmk with ⟨h1, rfl⟩ | ⟨h1, rfl⟩
  all_goals rcases hmv with ⟨h2, rfl⟩ | ⟨h2, rfl⟩
  · have h1' : (mk : Int) ≤ 260 := by omega
    have h2' : (mv : Int) ≤ 200 := by omega
    have h3' : (mk : Int) ≤ (ck : Int) := by omega
    have h4' : (mv : Int) ≤ (cv : Int) := by omega
    go_enter Tryd.func10, Tryd.ntmps10
    go_wp2_with fail
    go_region
    all_goals
      go_wp2
      refine bodyPost_ret (v := .agg #[.int .i64 ki, .slice Ak mk ck, .slice Av mv cv, .int .i64 ex]) (by simp [results, Tryd.results10, go_sem, *]) rfl ?_
      exact ⟨rfl, by (repeat (first | with_reducible exact Below.refl _ _ | with_reducible refine Below.setCell ?_ (by first | (simp; done) | (simp; omega) | omega) _ | with_reducible refine Below.alloc ?_ (by first | (simp; done) | (simp; omega) | omega) _ | with_reducible refine Below.drew ?_))⟩
  · have h1' : (mk : Int) ≤ 260 := by omega
    have h2' : (200 : Int) < (nv : Int) := by omega
    have h3' : (mk : Int) ≤ (ck : Int) := by omega
    have h4' : (200 : Int) ≤ (cv : Int) := by omega
    go_enter Tryd.func10, Tryd.ntmps10
    go_wp2_with fail
    go_region
    all_goals
      go_wp2
      refine bodyPost_ret (v := .agg #[.int .i64 ki, .slice Ak mk ck, .slice Av 200 cv, .int .i64 ex]) (by simp [results, Tryd.results10, go_sem, *]) rfl ?_
      exact ⟨rfl, by (repeat (first | with_reducible exact Below.refl _ _ | with_reducible refine Below.setCell ?_ (by first | (simp; done) | (simp; omega) | omega) _ | with_reducible refine Below.alloc ?_ (by first | (simp; done) | (simp; omega) | omega) _ | with_reducible refine Below.drew ?_))⟩
  · have h1' : (260 : Int) < (nk : Int) := by omega
    have h2' : (mv : Int) ≤ 200 := by omega
    have h3' : (260 : Int) ≤ (ck : Int) := by omega
    have h4' : (mv : Int) ≤ (cv : Int) := by omega
    go_enter Tryd.func10, Tryd.ntmps10
    go_wp2_with fail
    go_region
    all_goals
      go_wp2
      refine bodyPost_ret (v := .agg #[.int .i64 ki, .slice Ak 260 ck, .slice Av mv cv, .int .i64 ex]) (by simp [results, Tryd.results10, go_sem, *]) rfl ?_
      exact ⟨rfl, by (repeat (first | with_reducible exact Below.refl _ _ | with_reducible refine Below.setCell ?_ (by first | (simp; done) | (simp; omega) | omega) _ | with_reducible refine Below.alloc ?_ (by first | (simp; done) | (simp; omega) | omega) _ | with_reducible refine Below.drew ?_))⟩
  · have h1' : (260 : Int) < (nk : Int) := by omega
    have h2' : (200 : Int) < (nv : Int) := by omega
    have h3' : (260 : Int) ≤ (ck : Int) := by omega
    have h4' : (200 : Int) ≤ (cv : Int) := by omega
    go_enter Tryd.func10, Tryd.ntmps10
    go_wp2_with fail
    go_region
    all_goals
      go_wp2
      refine bodyPost_ret (v := .agg #[.int .i64 ki, .slice Ak 260 ck, .slice Av 200 cv, .int .i64 ex]) (by simp [results, Tryd.results10, go_sem, *]) rfl ?_
      exact ⟨rfl, by (repeat (first | with_reducible exact Below.refl _ _ | with_reducible refine Below.setCell ?_ (by first | (simp; done) | (simp; omega) | omega) _ | with_reducible refine Below.alloc ?_ (by first | (simp; done) | (simp; omega) | omega) _ | with_reducible refine Below.drew ?_))⟩

set_option maxHeartbeats 1000000 in
theorem recAwake_any (w : World) (ht : TabAt w) (h0 : 0 < w.heap.size) :
    Calls Tryd.prog 13 #[] w fun e w' => e = .returned (.bool true) ∧ Below w.heap.size w w' := by
  have kc := fun (w : World) (C : Array Value) (n c : Nat) => Lib.run_convert_bytes_const (P := Tryd.prog) w 24 5 C n c Tryd.underlying24 Tryd.underlying5
  have he2 : (rencS 1 3 0 2 0 [107] []).2 = 0 := by decide
  have hrb := (rencS_ok he2).2.2.2.2
  have hd := rdec_enc he2 [9]
  obtain ⟨rb, hrbe⟩ : ∃ rb, rbytes 1 (3 : Int).toNat (0 : Int).toNat (2 : Int).toNat (0 : Int).toNat [107] [] = rb := ⟨_, rfl⟩
  have h17 : rb.length = 17 := by rw [← hrbe, rbytes_len]; rfl
  have hb0 : rb[0]? = some 0xA1 := by rw [← hrbe]; rfl
  have hb1 : rb[1]? = some 2 := by rw [← hrbe]; rfl
  rw [hrbe] at hrb
  rw [hrb] at hd
  have HE : Hid (rencS 1 3 0 2 0 [107] [] = (rb, 0)) := hrb
  have HD : Hid (rdec 1 3 0 (rb ++ [9]) = some ((2, 0, [107], []), 17)) := hd
  have HL := Lib.hid h17
  have HX0 := Lib.hid hb0
  have HX1 := Lib.hid hb1
  have HT : Hid (∀ w', Below w.heap.size w w' → TabAt w' ∧ 0 < w'.heap.size) := fun w' hw => ⟨ht.below hw h0, Nat.lt_of_lt_of_le h0 hw.size⟩
  have HB0 : Hid (Below w.heap.size w (w.alloc (.cells #[.int .u8 107] 5 (1, 2)))) := (Below.refl _ _).alloc (Nat.le_refl _) _
  clear he2 hrb hd hrbe h17 hb0 hb1 ht h0
  go_enter Tryd.func13, Tryd.ntmps13
  go_wp2_with fail
  refine (recEncode_any 1 3 0 2 0 [107] [] _ none 1 1 0 0 (w.heap.size + 1) _ (HT.out _ HB0.out).1 (HT.out _ HB0.out).2 (Byt.new w _ _ _ [107] rfl) (Byt.nil _ _ _) (by simp) (by decide) (by decide) (by decide) _ HE.out).mono ?_
  rintro e w1 ⟨A1, c1, rfl, hown, hbel⟩
  simp only [HL.out] at hown ⊢
  obtain ⟨g, rfl⟩ := hown.head (by decide)
  have HB1 : Hid (Below w.heap.size w w1) := HB0.out.trans (hbel.mono HB0.out.size)
  have HO1 : Hid (Own w1 w.heap.size 5 (.slice (some ⟨g, 0, none⟩) 17 c1) 17 rb) := hown.mono (by simp)
  clear hown hbel
  go_wp2_with (at_builtin; refine wpList_append_keep rfl Tryd.u8w (.tmp 14) (.tmp 15) rfl rfl (HO1.out.keep ((Below.refl _ _).alloc (Nat.le_refl _) _)) rfl (Byt.new w1 _ _ _ [9] rfl) ?_ ?_ ?_ ?_; decide; decide; (have := HB1.out.size; simp; omega); intro A2 c2 w2 hown2 hbel2 hby2; have HO2 := Lib.hid hown2; have HK2 := Lib.hid hby2; have HB2 : Hid (Below w.heap.size w w2) := (HB1.out.alloc HB1.out.size _).trans hbel2; clear hown2 hbel2 hby2)
  obtain ⟨_, _, hv, hc1, hc2⟩ := HO2.out.form
  injection hv with hv1 hv2 hv3
  subst hv3
  refine (recDecode_any 1 3 0 (rb ++ [9]) A2 18 c2 w2.heap.size w2 (HT.out _ HB2.out).1 (HT.out _ HB2.out).2 HO2.out.byt hc1 hc2 (Nat.le_refl _) (by decide) _ HD.out).mono ?_
  rintro e w3 ⟨Ak3, ck3, Av3, cv3, rfl, hk3, hv3, hbel3⟩
  have HB3 : Hid (Below w.heap.size w w3) := HB2.out.trans (hbel3.mono HB2.out.size)
  have HK3 := Lib.hid (HK2.out.below hbel3)
  have q0 : w3.cell? ⟨g, 0, none⟩ = some (.int .u8 161) := by
    obtain ⟨ad, b, h1, _, h2, h3⟩ := HK3.out.get (k := 0) (by decide)
    injection h1 with h1
    subst h1
    rw [HX0.out] at h2
    injection h2 with h2
    subst h2
    exact h3
  have q1 : w3.cell? ⟨g, 1, none⟩ = some (.int .u8 2) := by
    obtain ⟨ad, b, h1, _, h2, h3⟩ := HK3.out.get (k := 1) (by decide)
    injection h1 with h1
    subst h1
    rw [HX1.out] at h2
    injection h2 with h2
    subst h2
    exact h3
  have hgl : g < w3.heap.size := by
    obtain ⟨ad, b, h1, h4, h2, h3⟩ := HK3.out.get (k := 1) (by decide)
    injection h1 with h1
    subst h1
    exact Nat.lt_of_lt_of_le h4 hbel3.size
  have hgn : ¬ g = w3.heap.size := by omega
  clear hk3 hv3 hbel3 hv1 hv2 hc1 hc2
  go_wp2
  go_ret
  exact ⟨rfl, HB3.out.alloc HB3.out.size _⟩
end Go.Proofs.YtcaliolcmooooaaDoor
