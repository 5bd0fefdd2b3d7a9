/- The walk of the plans' Awake. -/
import Derived.Test.YthjnbdbbeidhgaaDoorFormRef
import Derived.Laws.StructEq
namespace Go.Proofs.YthjnbdbbeidhgaaDoor
open Go.RowKit

/-- A layout and an error. -/
abbrev LE := (Int × Int × Int × Int) × Int
/-- What a function that returns a layout and an error leaves. -/
def LayRes (r : LE) (w : World) (e : Ending) (w' : World) : Prop := e = .returned (.tuple #[.agg #[.int .i64 r.1.1, .int .i64 r.1.2.1, .int .i64 r.1.2.2.1, .int .i64 r.1.2.2.2], .int .i64 r.2]) ∧ Below w.heap.size w w'

def resizeS (a b c d s rs rg : Int) : LE :=
  if baseB a b c d = false then ((0, 0, 0, 0), 4)
  else if form (a + 1) b rs rg = false ∨ s < 74 + rg * rs ∨ (rs = c ∧ rg = d) then ((0, 0, 0, 0), 10)
  else ((a + 1, b, rs, rg), 0)
def upgradeS (a b c d : Int) : LE :=
  if baseB a b c d = false then ((0, 0, 0, 0), 4) else if b = 2 then ((0, 0, 0, 0), 10) else ((a + 1, 2, c, d), 0)
def returnS (a b c d a' b' c' d' : Int) : LE :=
  if baseB a b c d = false ∨ baseB a' b' c' d' = false then ((0, 0, 0, 0), 4) else ((a' + 1, b, c, d), 0)

theorem baseB_true {a b c d : Int} (h : baseB a b c d = true) : form a b c d = true ∧ a ≤ 4294967293 := by
  simpa [baseB] using h
theorem area_le (x y : Int) (h1 : 0 ≤ x) (h2 : x ≤ 16) (h3 : 0 ≤ y) (h4 : y ≤ 2048) : 0 ≤ x * y ∧ x * y ≤ 32768 := by
  refine ⟨Int.mul_nonneg h1 h3, ?_⟩
  have := Int.mul_le_mul h2 h4 h3 (by decide : (0 : Int) ≤ 16)
  omega

set_option maxHeartbeats 1000000 in
theorem resize_any (a b c d s rs rg : Int) (ha : I64 a) (hb : I64 b) (hc : I64 c) (hd : I64 d) (hrs : I64 rs) (hrg : I64 rg) (r : LE) (hr : resizeS a b c d s rs rg = r) (w : World) :
    Calls Tryd.prog 33 #[.agg #[.int .i64 a, .int .i64 b, .int .i64 c, .int .i64 d], .int .i64 s, .int .i64 rs, .int .i64 rg] w (LayRes r w) := by
  have CB := Lib.hid (base_any a b c d ha hb hc hd)
  cases hbase : baseB a b c d
  · rw [hbase] at CB
    have HF : Hid (r = ((0, 0, 0, 0), 4)) := by show _ = _; rw [← hr, resizeS, if_pos hbase]
    clear hr hbase
    unfold I64 at *
    go_enter Tryd.func33, Tryd.ntmps33
    go_wp2_with (first | (go_at_call 58; refine (CB.out _).mono ?_; rintro e w1 ⟨rfl, hb1⟩; obtain ⟨hcc1, hcf1⟩ := below_cells hb1; have hz1 : w.heap.size + 1 < w1.heap.size := (by have := hb1.size; simp at this; omega); have hy1 : w.heap.size < w1.heap.size := (by omega)))
    have HB1 : Hid (Below w.heap.size w w1) := Below.trans (by (repeat (first | with_reducible exact Below.refl _ _ | with_reducible refine Below.setCell ?_ (by first | (simp; done) | (simp; omega) | omega) _ | with_reducible refine Below.alloc ?_ (by first | (simp; done) | (simp; omega) | omega) _ | with_reducible refine Below.drew ?_))) (hb1.mono (by simp; omega))
    refine bodyPost_ret (v := .tuple #[.agg #[.int .i64 0, .int .i64 0, .int .i64 0, .int .i64 0], .int .i64 4]) (by simp [results, Tryd.results33, go_sem, *]) rfl ?_
    rw [HF.out]
    exact ⟨rfl, by (repeat (first | with_reducible exact Below.refl _ _ | with_reducible exact HB1.out | with_reducible refine Below.setCell ?_ (by first | (simp; done) | (simp; omega) | omega) _ | with_reducible refine Below.alloc ?_ (by first | (simp; done) | (simp; omega) | omega) _ | with_reducible refine Below.drew ?_))⟩
  rw [hbase] at CB
  obtain ⟨hbt, hba⟩ := baseB_true hbase
  obtain ⟨hf1, _⟩ := form_true hbt
  have CF := Lib.hid (form_any (a + 1) b rs rg ⟨by omega, by omega⟩ hb hrs hrg)
  cases hform : form (a + 1) b rs rg
  · rw [hform] at CF
    have HF : Hid (r = ((0, 0, 0, 0), 10)) := by show _ = _; rw [← hr, resizeS, if_neg (by rw [hbase]; decide), if_pos (.inl hform)]
    clear hr hbase hbt hform
    unfold I64 at *
    go_enter Tryd.func33, Tryd.ntmps33
    go_wp2_with (first | (go_at_call 58; refine (CB.out _).mono ?_; rintro e w1 ⟨rfl, hb1⟩; obtain ⟨hcc1, hcf1⟩ := below_cells hb1; have hz1 : w.heap.size + 1 < w1.heap.size := (by have := hb1.size; simp at this; omega); have hy1 : w.heap.size < w1.heap.size := (by omega)) | (go_at_call 26; refine (CF.out _).mono ?_; rintro e w2 ⟨rfl, hb2⟩; obtain ⟨hcc2, hcf2⟩ := below_cells hb2; have hz2 : w1.heap.size ≤ w2.heap.size := (by have := hb2.size; first | omega | (simp at this; omega)); have hy2 : w.heap.size + 1 < w2.heap.size := (by omega); have hx2 : w.heap.size < w2.heap.size := (by omega)))
    have HB1 : Hid (Below w.heap.size w w1) := Below.trans (by (repeat (first | with_reducible exact Below.refl _ _ | with_reducible refine Below.setCell ?_ (by first | (simp; done) | (simp; omega) | omega) _ | with_reducible refine Below.alloc ?_ (by first | (simp; done) | (simp; omega) | omega) _ | with_reducible refine Below.drew ?_))) (hb1.mono (by simp; omega))
    have HB2 : Hid (Below w.heap.size w w2) := Below.trans (by (repeat (first | with_reducible exact Below.refl _ _ | with_reducible exact HB1.out | with_reducible refine Below.setCell ?_ (by first | (simp; done) | (simp; omega) | omega) _ | with_reducible refine Below.alloc ?_ (by first | (simp; done) | (simp; omega) | omega) _ | with_reducible refine Below.drew ?_))) (hb2.mono (by first | (simp; done) | (simp; omega) | omega))
    refine bodyPost_ret (v := .tuple #[.agg #[.int .i64 0, .int .i64 0, .int .i64 0, .int .i64 0], .int .i64 10]) (by simp [results, Tryd.results33, go_sem, *]) rfl ?_
    rw [HF.out]
    exact ⟨rfl, by (repeat (first | with_reducible exact Below.refl _ _ | with_reducible exact HB1.out | with_reducible exact HB2.out | with_reducible refine Below.setCell ?_ (by first | (simp; done) | (simp; omega) | omega) _ | with_reducible refine Below.alloc ?_ (by first | (simp; done) | (simp; omega) | omega) _ | with_reducible refine Below.drew ?_))⟩
  rw [hform] at CF
  obtain ⟨_, _, _, q1, q2, _, q3, q4⟩ := form_true hform
  obtain ⟨q5, q6⟩ := area_le rg rs (by omega) q4 (by omega) q2
  rcases Int.lt_or_le s (74 + rg * rs) with hsz | hsz
  · have HF : Hid (r = ((0, 0, 0, 0), 10)) := by show _ = _; rw [← hr, resizeS, if_neg (by rw [hbase]; decide), if_pos (.inr (.inl hsz))]
    clear hr hbase hbt hform
    unfold I64 at *
    go_enter Tryd.func33, Tryd.ntmps33
    go_wp2_with (first | (go_at_call 58; refine (CB.out _).mono ?_; rintro e w1 ⟨rfl, hb1⟩; obtain ⟨hcc1, hcf1⟩ := below_cells hb1; have hz1 : w.heap.size + 1 < w1.heap.size := (by have := hb1.size; simp at this; omega); have hy1 : w.heap.size < w1.heap.size := (by omega)) | (go_at_call 26; refine (CF.out _).mono ?_; rintro e w2 ⟨rfl, hb2⟩; obtain ⟨hcc2, hcf2⟩ := below_cells hb2; have hz2 : w1.heap.size ≤ w2.heap.size := (by have := hb2.size; first | omega | (simp at this; omega)); have hy2 : w.heap.size + 1 < w2.heap.size := (by omega); have hx2 : w.heap.size < w2.heap.size := (by omega)))
    have HB1 : Hid (Below w.heap.size w w1) := Below.trans (by (repeat (first | with_reducible exact Below.refl _ _ | with_reducible refine Below.setCell ?_ (by first | (simp; done) | (simp; omega) | omega) _ | with_reducible refine Below.alloc ?_ (by first | (simp; done) | (simp; omega) | omega) _ | with_reducible refine Below.drew ?_))) (hb1.mono (by simp; omega))
    have HB2 : Hid (Below w.heap.size w w2) := Below.trans (by (repeat (first | with_reducible exact Below.refl _ _ | with_reducible exact HB1.out | with_reducible refine Below.setCell ?_ (by first | (simp; done) | (simp; omega) | omega) _ | with_reducible refine Below.alloc ?_ (by first | (simp; done) | (simp; omega) | omega) _ | with_reducible refine Below.drew ?_))) (hb2.mono (by first | (simp; done) | (simp; omega) | omega))
    refine bodyPost_ret (v := .tuple #[.agg #[.int .i64 0, .int .i64 0, .int .i64 0, .int .i64 0], .int .i64 10]) (by simp [results, Tryd.results33, go_sem, *]) rfl ?_
    rw [HF.out]
    exact ⟨rfl, by (repeat (first | with_reducible exact Below.refl _ _ | with_reducible exact HB1.out | with_reducible exact HB2.out | with_reducible refine Below.setCell ?_ (by first | (simp; done) | (simp; omega) | omega) _ | with_reducible refine Below.alloc ?_ (by first | (simp; done) | (simp; omega) | omega) _ | with_reducible refine Below.drew ?_))⟩
  by_cases he : rs = c ∧ rg = d
  · have HF : Hid (r = ((0, 0, 0, 0), 10)) := by show _ = _; rw [← hr, resizeS, if_neg (by rw [hbase]; decide), if_pos (.inr (.inr he))]
    clear hr hbase hbt hform
    obtain ⟨rfl, rfl⟩ := he
    unfold I64 at *
    go_enter Tryd.func33, Tryd.ntmps33
    go_wp2_with (first | (go_at_call 58; refine (CB.out _).mono ?_; rintro e w1 ⟨rfl, hb1⟩; obtain ⟨hcc1, hcf1⟩ := below_cells hb1; have hz1 : w.heap.size + 1 < w1.heap.size := (by have := hb1.size; simp at this; omega); have hy1 : w.heap.size < w1.heap.size := (by omega)) | (go_at_call 26; refine (CF.out _).mono ?_; rintro e w2 ⟨rfl, hb2⟩; obtain ⟨hcc2, hcf2⟩ := below_cells hb2; have hz2 : w1.heap.size ≤ w2.heap.size := (by have := hb2.size; first | omega | (simp at this; omega)); have hy2 : w.heap.size + 1 < w2.heap.size := (by omega); have hx2 : w.heap.size < w2.heap.size := (by omega)))
    have HB1 : Hid (Below w.heap.size w w1) := Below.trans (by (repeat (first | with_reducible exact Below.refl _ _ | with_reducible refine Below.setCell ?_ (by first | (simp; done) | (simp; omega) | omega) _ | with_reducible refine Below.alloc ?_ (by first | (simp; done) | (simp; omega) | omega) _ | with_reducible refine Below.drew ?_))) (hb1.mono (by simp; omega))
    have HB2 : Hid (Below w.heap.size w w2) := Below.trans (by (repeat (first | with_reducible exact Below.refl _ _ | with_reducible exact HB1.out | with_reducible refine Below.setCell ?_ (by first | (simp; done) | (simp; omega) | omega) _ | with_reducible refine Below.alloc ?_ (by first | (simp; done) | (simp; omega) | omega) _ | with_reducible refine Below.drew ?_))) (hb2.mono (by first | (simp; done) | (simp; omega) | omega))
    refine bodyPost_ret (v := .tuple #[.agg #[.int .i64 0, .int .i64 0, .int .i64 0, .int .i64 0], .int .i64 10]) (by simp [results, Tryd.results33, go_sem, *]) rfl ?_
    rw [HF.out]
    exact ⟨rfl, by (repeat (first | with_reducible exact Below.refl _ _ | with_reducible exact HB1.out | with_reducible exact HB2.out | with_reducible refine Below.setCell ?_ (by first | (simp; done) | (simp; omega) | omega) _ | with_reducible refine Below.alloc ?_ (by first | (simp; done) | (simp; omega) | omega) _ | with_reducible refine Below.drew ?_))⟩
  have HF : Hid (r = ((a + 1, b, rs, rg), 0)) := by
    show _ = _
    rw [← hr, resizeS, if_neg (by rw [hbase]; decide), if_neg]
    rintro (h | h | h)
    · rw [hform] at h; cases h
    · omega
    · exact he h
  clear hr hbase hbt hform
  by_cases h1 : rs = c
  · have h2 : ¬ rg = d := fun h2 => he ⟨h1, h2⟩
    clear he
    subst h1
    have hgd : (rg == d) = false := by simpa using h2
    clear h2
    unfold I64 at *
    go_enter Tryd.func33, Tryd.ntmps33
    go_wp2_with (first | (go_at_call 58; refine (CB.out _).mono ?_; rintro e w1 ⟨rfl, hb1⟩; obtain ⟨hcc1, hcf1⟩ := below_cells hb1; have hz1 : w.heap.size + 1 < w1.heap.size := (by have := hb1.size; simp at this; omega); have hy1 : w.heap.size < w1.heap.size := (by omega)) | (go_at_call 26; refine (CF.out _).mono ?_; rintro e w2 ⟨rfl, hb2⟩; obtain ⟨hcc2, hcf2⟩ := below_cells hb2; have hz2 : w1.heap.size ≤ w2.heap.size := (by have := hb2.size; first | omega | (simp at this; omega)); have hy2 : w.heap.size + 1 < w2.heap.size := (by omega); have hx2 : w.heap.size < w2.heap.size := (by omega)))
    have HB1 : Hid (Below w.heap.size w w1) := Below.trans (by (repeat (first | with_reducible exact Below.refl _ _ | with_reducible refine Below.setCell ?_ (by first | (simp; done) | (simp; omega) | omega) _ | with_reducible refine Below.alloc ?_ (by first | (simp; done) | (simp; omega) | omega) _ | with_reducible refine Below.drew ?_))) (hb1.mono (by simp; omega))
    have HB2 : Hid (Below w.heap.size w w2) := Below.trans (by (repeat (first | with_reducible exact Below.refl _ _ | with_reducible exact HB1.out | with_reducible refine Below.setCell ?_ (by first | (simp; done) | (simp; omega) | omega) _ | with_reducible refine Below.alloc ?_ (by first | (simp; done) | (simp; omega) | omega) _ | with_reducible refine Below.drew ?_))) (hb2.mono (by first | (simp; done) | (simp; omega) | omega))
    refine bodyPost_ret (v := .tuple #[.agg #[.int .i64 (a + 1), .int .i64 b, .int .i64 rs, .int .i64 rg], .int .i64 0]) (by simp [results, Tryd.results33, go_sem, *]) rfl ?_
    rw [HF.out]
    exact ⟨rfl, by (repeat (first | with_reducible exact Below.refl _ _ | with_reducible exact HB1.out | with_reducible exact HB2.out | with_reducible refine Below.setCell ?_ (by first | (simp; done) | (simp; omega) | omega) _ | with_reducible refine Below.alloc ?_ (by first | (simp; done) | (simp; omega) | omega) _ | with_reducible refine Below.drew ?_))⟩
  · clear he
    unfold I64 at *
    go_enter Tryd.func33, Tryd.ntmps33
    go_wp2_with (first | (go_at_call 58; refine (CB.out _).mono ?_; rintro e w1 ⟨rfl, hb1⟩; obtain ⟨hcc1, hcf1⟩ := below_cells hb1; have hz1 : w.heap.size + 1 < w1.heap.size := (by have := hb1.size; simp at this; omega); have hy1 : w.heap.size < w1.heap.size := (by omega)) | (go_at_call 26; refine (CF.out _).mono ?_; rintro e w2 ⟨rfl, hb2⟩; obtain ⟨hcc2, hcf2⟩ := below_cells hb2; have hz2 : w1.heap.size ≤ w2.heap.size := (by have := hb2.size; first | omega | (simp at this; omega)); have hy2 : w.heap.size + 1 < w2.heap.size := (by omega); have hx2 : w.heap.size < w2.heap.size := (by omega)))
    have HB1 : Hid (Below w.heap.size w w1) := Below.trans (by (repeat (first | with_reducible exact Below.refl _ _ | with_reducible refine Below.setCell ?_ (by first | (simp; done) | (simp; omega) | omega) _ | with_reducible refine Below.alloc ?_ (by first | (simp; done) | (simp; omega) | omega) _ | with_reducible refine Below.drew ?_))) (hb1.mono (by simp; omega))
    have HB2 : Hid (Below w.heap.size w w2) := Below.trans (by (repeat (first | with_reducible exact Below.refl _ _ | with_reducible exact HB1.out | with_reducible refine Below.setCell ?_ (by first | (simp; done) | (simp; omega) | omega) _ | with_reducible refine Below.alloc ?_ (by first | (simp; done) | (simp; omega) | omega) _ | with_reducible refine Below.drew ?_))) (hb2.mono (by first | (simp; done) | (simp; omega) | omega))
    refine bodyPost_ret (v := .tuple #[.agg #[.int .i64 (a + 1), .int .i64 b, .int .i64 rs, .int .i64 rg], .int .i64 0]) (by simp [results, Tryd.results33, go_sem, *]) rfl ?_
    rw [HF.out]
    exact ⟨rfl, by (repeat (first | with_reducible exact Below.refl _ _ | with_reducible exact HB1.out | with_reducible exact HB2.out | with_reducible refine Below.setCell ?_ (by first | (simp; done) | (simp; omega) | omega) _ | with_reducible refine Below.alloc ?_ (by first | (simp; done) | (simp; omega) | omega) _ | with_reducible refine Below.drew ?_))⟩

set_option maxHeartbeats 1000000 in
theorem upgrade_any (a b c d : Int) (ha : I64 a) (hb : I64 b) (hc : I64 c) (hd : I64 d) (r : LE) (hr : upgradeS a b c d = r) (w : World) :
    Calls Tryd.prog 34 #[.agg #[.int .i64 a, .int .i64 b, .int .i64 c, .int .i64 d]] w (LayRes r w) := by
  have CB := Lib.hid (base_any a b c d ha hb hc hd)
  cases hbase : baseB a b c d
  · rw [hbase] at CB
    have HF : Hid (r = ((0, 0, 0, 0), 4)) := by show _ = _; rw [← hr, upgradeS, if_pos hbase]
    clear hr hbase
    unfold I64 at *
    go_enter Tryd.func34, Tryd.ntmps34
    go_wp2_with (first | (go_at_call 58; refine (CB.out _).mono ?_; rintro e w1 ⟨rfl, hb1⟩; obtain ⟨hcc1, hcf1⟩ := below_cells hb1; have hz1 : w.heap.size + 1 < w1.heap.size := (by have := hb1.size; simp at this; omega); have hy1 : w.heap.size < w1.heap.size := (by omega); have c0 : w1.cell? ⟨w.heap.size, 0, none⟩ = some (.int .i64 a) := (by rw [hcc1 _ _ (by first | (simp; done) | (simp; omega) | omega)]; go_simp); have c1 : w1.cell? ⟨w.heap.size, 1, none⟩ = some (.int .i64 b) := (by rw [hcc1 _ _ (by first | (simp; done) | (simp; omega) | omega)]; go_simp); have c2 : w1.cell? ⟨w.heap.size, 2, none⟩ = some (.int .i64 c) := (by rw [hcc1 _ _ (by first | (simp; done) | (simp; omega) | omega)]; go_simp); have c3 : w1.cell? ⟨w.heap.size, 3, none⟩ = some (.int .i64 d) := (by rw [hcc1 _ _ (by first | (simp; done) | (simp; omega) | omega)]; go_simp)))
    have HB1 : Hid (Below w.heap.size w w1) := Below.trans (by (repeat (first | with_reducible exact Below.refl _ _ | with_reducible refine Below.setCell ?_ (by first | (simp; done) | (simp; omega) | omega) _ | with_reducible refine Below.alloc ?_ (by first | (simp; done) | (simp; omega) | omega) _ | with_reducible refine Below.drew ?_))) (hb1.mono (by simp; omega))
    refine bodyPost_ret (v := .tuple #[.agg #[.int .i64 0, .int .i64 0, .int .i64 0, .int .i64 0], .int .i64 4]) (by simp [results, Tryd.results34, go_sem, *]) rfl ?_
    rw [HF.out]
    exact ⟨rfl, by (repeat (first | with_reducible exact Below.refl _ _ | with_reducible exact HB1.out | with_reducible refine Below.setCell ?_ (by first | (simp; done) | (simp; omega) | omega) _ | with_reducible refine Below.alloc ?_ (by first | (simp; done) | (simp; omega) | omega) _ | with_reducible refine Below.drew ?_))⟩
  rw [hbase] at CB
  obtain ⟨hbt, hba⟩ := baseB_true hbase
  obtain ⟨hf1, _⟩ := form_true hbt
  by_cases h2 : b = 2
  · have HF : Hid (r = ((0, 0, 0, 0), 10)) := by show _ = _; rw [← hr, upgradeS, if_neg (by rw [hbase]; decide), if_pos h2]
    clear hr hbase hbt
    have hbb : (b == 2) = true := by simpa using h2
    clear h2
    unfold I64 at *
    go_enter Tryd.func34, Tryd.ntmps34
    go_wp2_with (first | (go_at_call 58; refine (CB.out _).mono ?_; rintro e w1 ⟨rfl, hb1⟩; obtain ⟨hcc1, hcf1⟩ := below_cells hb1; have hz1 : w.heap.size + 1 < w1.heap.size := (by have := hb1.size; simp at this; omega); have hy1 : w.heap.size < w1.heap.size := (by omega); have c0 : w1.cell? ⟨w.heap.size, 0, none⟩ = some (.int .i64 a) := (by rw [hcc1 _ _ (by first | (simp; done) | (simp; omega) | omega)]; go_simp); have c1 : w1.cell? ⟨w.heap.size, 1, none⟩ = some (.int .i64 b) := (by rw [hcc1 _ _ (by first | (simp; done) | (simp; omega) | omega)]; go_simp); have c2 : w1.cell? ⟨w.heap.size, 2, none⟩ = some (.int .i64 c) := (by rw [hcc1 _ _ (by first | (simp; done) | (simp; omega) | omega)]; go_simp); have c3 : w1.cell? ⟨w.heap.size, 3, none⟩ = some (.int .i64 d) := (by rw [hcc1 _ _ (by first | (simp; done) | (simp; omega) | omega)]; go_simp)))
    have HB1 : Hid (Below w.heap.size w w1) := Below.trans (by (repeat (first | with_reducible exact Below.refl _ _ | with_reducible refine Below.setCell ?_ (by first | (simp; done) | (simp; omega) | omega) _ | with_reducible refine Below.alloc ?_ (by first | (simp; done) | (simp; omega) | omega) _ | with_reducible refine Below.drew ?_))) (hb1.mono (by simp; omega))
    refine bodyPost_ret (v := .tuple #[.agg #[.int .i64 0, .int .i64 0, .int .i64 0, .int .i64 0], .int .i64 10]) (by simp [results, Tryd.results34, go_sem, *]) rfl ?_
    rw [HF.out]
    exact ⟨rfl, by (repeat (first | with_reducible exact Below.refl _ _ | with_reducible exact HB1.out | with_reducible refine Below.setCell ?_ (by first | (simp; done) | (simp; omega) | omega) _ | with_reducible refine Below.alloc ?_ (by first | (simp; done) | (simp; omega) | omega) _ | with_reducible refine Below.drew ?_))⟩
  · have HF : Hid (r = ((a + 1, 2, c, d), 0)) := by show _ = _; rw [← hr, upgradeS, if_neg (by rw [hbase]; decide), if_neg h2]
    clear hr hbase hbt
    have hbb : (b == 2) = false := by simpa using h2
    clear h2
    unfold I64 at *
    go_enter Tryd.func34, Tryd.ntmps34
    go_wp2_with (first | (go_at_call 58; refine (CB.out _).mono ?_; rintro e w1 ⟨rfl, hb1⟩; obtain ⟨hcc1, hcf1⟩ := below_cells hb1; have hz1 : w.heap.size + 1 < w1.heap.size := (by have := hb1.size; simp at this; omega); have hy1 : w.heap.size < w1.heap.size := (by omega); have c0 : w1.cell? ⟨w.heap.size, 0, none⟩ = some (.int .i64 a) := (by rw [hcc1 _ _ (by first | (simp; done) | (simp; omega) | omega)]; go_simp); have c1 : w1.cell? ⟨w.heap.size, 1, none⟩ = some (.int .i64 b) := (by rw [hcc1 _ _ (by first | (simp; done) | (simp; omega) | omega)]; go_simp); have c2 : w1.cell? ⟨w.heap.size, 2, none⟩ = some (.int .i64 c) := (by rw [hcc1 _ _ (by first | (simp; done) | (simp; omega) | omega)]; go_simp); have c3 : w1.cell? ⟨w.heap.size, 3, none⟩ = some (.int .i64 d) := (by rw [hcc1 _ _ (by first | (simp; done) | (simp; omega) | omega)]; go_simp)))
    have HB1 : Hid (Below w.heap.size w w1) := Below.trans (by (repeat (first | with_reducible exact Below.refl _ _ | with_reducible refine Below.setCell ?_ (by first | (simp; done) | (simp; omega) | omega) _ | with_reducible refine Below.alloc ?_ (by first | (simp; done) | (simp; omega) | omega) _ | with_reducible refine Below.drew ?_))) (hb1.mono (by simp; omega))
    refine bodyPost_ret (v := .tuple #[.agg #[.int .i64 (a + 1), .int .i64 2, .int .i64 c, .int .i64 d], .int .i64 0]) (by simp [results, Tryd.results34, go_sem, *]) rfl ?_
    rw [HF.out]
    exact ⟨rfl, by (repeat (first | with_reducible exact Below.refl _ _ | with_reducible exact HB1.out | with_reducible refine Below.setCell ?_ (by first | (simp; done) | (simp; omega) | omega) _ | with_reducible refine Below.alloc ?_ (by first | (simp; done) | (simp; omega) | omega) _ | with_reducible refine Below.drew ?_))⟩

theorem awake_1 : resizeS 1 1 4 4 100 4 6 = ((2, 1, 4, 6), 0) := by decide
theorem awake_2 : resizeS 1 1 4 4 100 4 7 = ((0, 0, 0, 0), 10) := by decide
theorem awake_3 : upgradeS 1 1 4 4 = ((2, 2, 4, 4), 0) := by decide

set_option maxHeartbeats 1000000 in
theorem planAwake_any (w : World) : Calls Tryd.prog 12 #[] w fun e w' => e = .returned (.bool true) ∧ Below w.heap.size w w' := by
  have C1 := Lib.hid (resize_any 1 1 4 4 100 4 6 ⟨by decide, by decide⟩ ⟨by decide, by decide⟩ ⟨by decide, by decide⟩ ⟨by decide, by decide⟩ ⟨by decide, by decide⟩ ⟨by decide, by decide⟩ _ awake_1)
  have C2 := Lib.hid (resize_any 1 1 4 4 100 4 7 ⟨by decide, by decide⟩ ⟨by decide, by decide⟩ ⟨by decide, by decide⟩ ⟨by decide, by decide⟩ ⟨by decide, by decide⟩ ⟨by decide, by decide⟩ _ awake_2)
  have C3 := Lib.hid (upgrade_any 1 1 4 4 ⟨by decide, by decide⟩ ⟨by decide, by decide⟩ ⟨by decide, by decide⟩ ⟨by decide, by decide⟩ _ awake_3)
  go_enter Tryd.func12, Tryd.ntmps12
  go_wp2_with fail
  with_reducible refine (C1.out _).mono ?_
  rintro e w1 ⟨rfl, hb1⟩
  obtain ⟨hcc1, hcf1⟩ := below_cells hb1
  have HB1 : Hid (Below w.heap.size w w1) := Below.trans (by (repeat (first | with_reducible exact Below.refl _ _ | with_reducible refine Below.setCell ?_ (by first | (simp; done) | (simp; omega) | omega) _ | with_reducible refine Below.alloc ?_ (by first | (simp; done) | (simp; omega) | omega) _ | with_reducible refine Below.drew ?_))) (hb1.mono (by first | (simp; done) | (simp; omega) | omega))
  have hsz1_0 : w.heap.size < w1.heap.size := by have := hb1.size; first | omega | (simp at this; omega)
  have l1_0 : w1.cell? ⟨w.heap.size, 0, none⟩ = some (.int .i64 1) := by rw [hcc1 _ _ (by first | (simp; done) | (simp; omega) | omega)]; first | assumption | go_simp
  have l1_1 : w1.cell? ⟨w.heap.size, 1, none⟩ = some (.int .i64 1) := by rw [hcc1 _ _ (by first | (simp; done) | (simp; omega) | omega)]; first | assumption | go_simp
  have l1_2 : w1.cell? ⟨w.heap.size, 2, none⟩ = some (.int .i64 4) := by rw [hcc1 _ _ (by first | (simp; done) | (simp; omega) | omega)]; first | assumption | go_simp
  have l1_3 : w1.cell? ⟨w.heap.size, 3, none⟩ = some (.int .i64 4) := by rw [hcc1 _ _ (by first | (simp; done) | (simp; omega) | omega)]; first | assumption | go_simp
  go_wp2_with fail
  with_reducible refine (C2.out _).mono ?_
  rintro e w2 ⟨rfl, hb2⟩
  obtain ⟨hcc2, hcf2⟩ := below_cells hb2
  have HB2 : Hid (Below w.heap.size w w2) := Below.trans (by (repeat (first | with_reducible exact Below.refl _ _ | with_reducible exact HB1.out | with_reducible refine Below.setCell ?_ (by first | (simp; done) | (simp; omega) | omega) _ | with_reducible refine Below.alloc ?_ (by first | (simp; done) | (simp; omega) | omega) _ | with_reducible refine Below.drew ?_))) (hb2.mono (by first | (simp; done) | (simp; omega) | omega))
  have hsz2_0 : w.heap.size < w2.heap.size := by have := hb2.size; first | omega | (simp at this; omega)
  have hsz2_1 : w1.heap.size < w2.heap.size := by have := hb2.size; first | omega | (simp at this; omega)
  have l2_0 : w2.cell? ⟨w.heap.size, 0, none⟩ = some (.int .i64 1) := by rw [hcc2 _ _ (by first | (simp; done) | (simp; omega) | omega)]; first | assumption | go_simp
  have l2_1 : w2.cell? ⟨w.heap.size, 1, none⟩ = some (.int .i64 1) := by rw [hcc2 _ _ (by first | (simp; done) | (simp; omega) | omega)]; first | assumption | go_simp
  have l2_2 : w2.cell? ⟨w.heap.size, 2, none⟩ = some (.int .i64 4) := by rw [hcc2 _ _ (by first | (simp; done) | (simp; omega) | omega)]; first | assumption | go_simp
  have l2_3 : w2.cell? ⟨w.heap.size, 3, none⟩ = some (.int .i64 4) := by rw [hcc2 _ _ (by first | (simp; done) | (simp; omega) | omega)]; first | assumption | go_simp
  have t2_0 : w2.cell? ⟨w1.heap.size, 0, none⟩ = some (.int .i64 2) := by rw [hcc2 _ _ (by first | (simp; done) | (simp; omega) | omega)]; first | assumption | go_simp
  have t2_1 : w2.cell? ⟨w1.heap.size, 1, none⟩ = some (.int .i64 1) := by rw [hcc2 _ _ (by first | (simp; done) | (simp; omega) | omega)]; first | assumption | go_simp
  have t2_2 : w2.cell? ⟨w1.heap.size, 2, none⟩ = some (.int .i64 4) := by rw [hcc2 _ _ (by first | (simp; done) | (simp; omega) | omega)]; first | assumption | go_simp
  have t2_3 : w2.cell? ⟨w1.heap.size, 3, none⟩ = some (.int .i64 6) := by rw [hcc2 _ _ (by first | (simp; done) | (simp; omega) | omega)]; first | assumption | go_simp
  go_wp2_with fail
  with_reducible refine (C3.out _).mono ?_
  rintro e w3 ⟨rfl, hb3⟩
  obtain ⟨hcc3, hcf3⟩ := below_cells hb3
  have HB3 : Hid (Below w.heap.size w w3) := Below.trans (by (repeat (first | with_reducible exact Below.refl _ _ | with_reducible exact HB1.out | with_reducible exact HB2.out | with_reducible refine Below.setCell ?_ (by first | (simp; done) | (simp; omega) | omega) _ | with_reducible refine Below.alloc ?_ (by first | (simp; done) | (simp; omega) | omega) _ | with_reducible refine Below.drew ?_))) (hb3.mono (by first | (simp; done) | (simp; omega) | omega))
  have hsz3_0 : w.heap.size < w3.heap.size := by have := hb3.size; first | omega | (simp at this; omega)
  have hsz3_1 : w1.heap.size < w3.heap.size := by have := hb3.size; first | omega | (simp at this; omega)
  have hsz3_2 : w2.heap.size < w3.heap.size := by have := hb3.size; first | omega | (simp at this; omega)
  have t3_0 : w3.cell? ⟨w1.heap.size, 0, none⟩ = some (.int .i64 2) := by rw [hcc3 _ _ (by first | (simp; done) | (simp; omega) | omega)]; first | assumption | go_simp
  have t3_1 : w3.cell? ⟨w1.heap.size, 1, none⟩ = some (.int .i64 1) := by rw [hcc3 _ _ (by first | (simp; done) | (simp; omega) | omega)]; first | assumption | go_simp
  have t3_2 : w3.cell? ⟨w1.heap.size, 2, none⟩ = some (.int .i64 4) := by rw [hcc3 _ _ (by first | (simp; done) | (simp; omega) | omega)]; first | assumption | go_simp
  have t3_3 : w3.cell? ⟨w1.heap.size, 3, none⟩ = some (.int .i64 6) := by rw [hcc3 _ _ (by first | (simp; done) | (simp; omega) | omega)]; first | assumption | go_simp
  go_wp2_with fail
  go_ret
  exact ⟨rfl, by (repeat (first | with_reducible exact Below.refl _ _ | with_reducible exact HB1.out | with_reducible exact HB2.out | with_reducible exact HB3.out | with_reducible refine Below.setCell ?_ (by first | (simp; done) | (simp; omega) | omega) _ | with_reducible refine Below.alloc ?_ (by first | (simp; done) | (simp; omega) | omega) _ | with_reducible refine Below.drew ?_))⟩

end Go.Proofs.YthjnbdbbeidhgaaDoor
