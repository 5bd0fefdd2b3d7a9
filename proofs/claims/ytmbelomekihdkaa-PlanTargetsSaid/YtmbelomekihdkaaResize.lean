/- plan.Resize and the reference's Resize; Upgrade; Return. -/
import Derived.Test.YtmbelomekihdkaaFormRef
namespace Go.Proofs.Ytmbelomekihdkaa
open Go.RowKit

/-- A layout and an error. -/
abbrev LE := (Int × Int × Int × Int) × Int
/-- What a function that returns a layout and an error leaves. -/
def LayRes (r : LE) (w : World) (e : Ending) (w' : World) : Prop := e = .returned (.tuple #[.agg #[.int .i64 r.1.1, .int .i64 r.1.2.1, .int .i64 r.1.2.2.1, .int .i64 r.1.2.2.2], .int .i64 r.2]) ∧ Below w.heap.size w w'

def resizeS (a b c d s rs rg : Int) : LE :=
  if baseB a b c d = false then ((0, 0, 0, 0), 4)
  else if form (a + 1) b rs rg = false ∨ s < 74 + rg * rs ∨ (rs = c ∧ rg = d) then ((0, 0, 0, 0), 10)
  else ((a + 1, b, rs, rg), 0)
def upgradeS (a b c d : Int) : LE :=
  if baseB a b c d = false then ((0, 0, 0, 0), 4) else if b = 2 then ((0, 0, 0, 0), 10) else ((a + 1, 2, c, d), 0)
def returnS (a b c d a' b' c' d' : Int) : LE :=
  if baseB a b c d = false ∨ baseB a' b' c' d' = false then ((0, 0, 0, 0), 4) else ((a' + 1, b, c, d), 0)

theorem baseB_true {a b c d : Int} (h : baseB a b c d = true) : form a b c d = true ∧ a ≤ 4294967293 := by
  simpa [baseB] using h
theorem area_le (x y : Int) (h1 : 0 ≤ x) (h2 : x ≤ 16) (h3 : 0 ≤ y) (h4 : y ≤ 2048) : 0 ≤ x * y ∧ x * y ≤ 32768 := by
  refine ⟨Int.mul_nonneg h1 h3, ?_⟩
  have := Int.mul_le_mul h2 h4 h3 (by decide : (0 : Int) ≤ 16)
  omega

set_option maxHeartbeats 1000000 in
theorem resize_any (a b c d s rs rg : Int) (ha : I64 a) (hb : I64 b) (hc : I64 c) (hd : I64 d) (hrs : I64 rs) (hrg : I64 rg) (r : LE) (hr : resizeS a b c d s rs rg = r) (w : World) :
    Calls Try.prog 10 #[.agg #[.int .i64 a, .int .i64 b, .int .i64 c, .int .i64 d], .int .i64 s, .int .i64 rs, .int .i64 rg] w (LayRes r w) := by
  have CB := Lib.hid (base_any a b c d ha hb hc hd)
  cases hbase : baseB a b c d
  · rw [hbase] at CB
    have HF : Hid (r = ((0, 0, 0, 0), 4)) := by show _ = _; rw [← hr, resizeS, if_pos hbase]
    clear hr hbase
    unfold I64 at *
    go_enter Try.func10, Try.ntmps10
    go_wp2_with (first | (go_at_call 29; refine (CB.out _).mono ?_; rintro e w1 ⟨rfl, hb1⟩; obtain ⟨hcc1, hcf1⟩ := below_cells hb1; have hz1 : w.heap.size + 1 < w1.heap.size := (by have := hb1.size; simp at this; omega); have hy1 : w.heap.size < w1.heap.size := (by omega)))
    have HB1 : Hid (Below w.heap.size w w1) := Below.trans (by (repeat (first | with_reducible exact Below.refl _ _ | with_reducible refine Below.setCell ?_ (by first | (simp; done) | (simp; omega) | omega) _ | with_reducible refine Below.alloc ?_ (by first | (simp; done) | (simp; omega) | omega) _ | with_reducible refine Below.drew ?_))) (hb1.mono (by simp; omega))
    refine bodyPost_ret (v := .tuple #[.agg #[.int .i64 0, .int .i64 0, .int .i64 0, .int .i64 0], .int .i64 4]) (by simp [results, Try.results10, go_sem, *]) rfl ?_
    rw [HF.out]
    exact ⟨rfl, by (repeat (first | with_reducible exact Below.refl _ _ | with_reducible exact HB1.out | with_reducible refine Below.setCell ?_ (by first | (simp; done) | (simp; omega) | omega) _ | with_reducible refine Below.alloc ?_ (by first | (simp; done) | (simp; omega) | omega) _ | with_reducible refine Below.drew ?_))⟩
  rw [hbase] at CB
  obtain ⟨hbt, hba⟩ := baseB_true hbase
  obtain ⟨hf1, _⟩ := form_true hbt
  have CF := Lib.hid (form_any (a + 1) b rs rg ⟨by omega, by omega⟩ hb hrs hrg)
  cases hform : form (a + 1) b rs rg
  · rw [hform] at CF
    have HF : Hid (r = ((0, 0, 0, 0), 10)) := by show _ = _; rw [← hr, resizeS, if_neg (by rw [hbase]; decide), if_pos (.inl hform)]
    clear hr hbase hbt hform
    unfold I64 at *
    go_enter Try.func10, Try.ntmps10
    go_wp2_with (first | (go_at_call 29; refine (CB.out _).mono ?_; rintro e w1 ⟨rfl, hb1⟩; obtain ⟨hcc1, hcf1⟩ := below_cells hb1; have hz1 : w.heap.size + 1 < w1.heap.size := (by have := hb1.size; simp at this; omega); have hy1 : w.heap.size < w1.heap.size := (by omega)) | (go_at_call 30; refine (CF.out _).mono ?_; rintro e w2 ⟨rfl, hb2⟩; obtain ⟨hcc2, hcf2⟩ := below_cells hb2; have hz2 : w1.heap.size ≤ w2.heap.size := (by have := hb2.size; first | omega | (simp at this; omega)); have hy2 : w.heap.size + 1 < w2.heap.size := (by omega); have hx2 : w.heap.size < w2.heap.size := (by omega)))
    have HB1 : Hid (Below w.heap.size w w1) := Below.trans (by (repeat (first | with_reducible exact Below.refl _ _ | with_reducible refine Below.setCell ?_ (by first | (simp; done) | (simp; omega) | omega) _ | with_reducible refine Below.alloc ?_ (by first | (simp; done) | (simp; omega) | omega) _ | with_reducible refine Below.drew ?_))) (hb1.mono (by simp; omega))
    have HB2 : Hid (Below w.heap.size w w2) := Below.trans (by (repeat (first | with_reducible exact Below.refl _ _ | with_reducible exact HB1.out | with_reducible refine Below.setCell ?_ (by first | (simp; done) | (simp; omega) | omega) _ | with_reducible refine Below.alloc ?_ (by first | (simp; done) | (simp; omega) | omega) _ | with_reducible refine Below.drew ?_))) (hb2.mono (by first | (simp; done) | (simp; omega) | omega))
    refine bodyPost_ret (v := .tuple #[.agg #[.int .i64 0, .int .i64 0, .int .i64 0, .int .i64 0], .int .i64 10]) (by simp [results, Try.results10, go_sem, *]) rfl ?_
    rw [HF.out]
    exact ⟨rfl, by (repeat (first | with_reducible exact Below.refl _ _ | with_reducible exact HB1.out | with_reducible exact HB2.out | with_reducible refine Below.setCell ?_ (by first | (simp; done) | (simp; omega) | omega) _ | with_reducible refine Below.alloc ?_ (by first | (simp; done) | (simp; omega) | omega) _ | with_reducible refine Below.drew ?_))⟩
  rw [hform] at CF
  obtain ⟨_, _, _, q1, q2, _, q3, q4⟩ := form_true hform
  obtain ⟨q5, q6⟩ := area_le rg rs (by omega) q4 (by omega) q2
  rcases Int.lt_or_le s (74 + rg * rs) with hsz | hsz
  · have HF : Hid (r = ((0, 0, 0, 0), 10)) := by show _ = _; rw [← hr, resizeS, if_neg (by rw [hbase]; decide), if_pos (.inr (.inl hsz))]
    clear hr hbase hbt hform
    unfold I64 at *
    go_enter Try.func10, Try.ntmps10
    go_wp2_with (first | (go_at_call 29; refine (CB.out _).mono ?_; rintro e w1 ⟨rfl, hb1⟩; obtain ⟨hcc1, hcf1⟩ := below_cells hb1; have hz1 : w.heap.size + 1 < w1.heap.size := (by have := hb1.size; simp at this; omega); have hy1 : w.heap.size < w1.heap.size := (by omega)) | (go_at_call 30; refine (CF.out _).mono ?_; rintro e w2 ⟨rfl, hb2⟩; obtain ⟨hcc2, hcf2⟩ := below_cells hb2; have hz2 : w1.heap.size ≤ w2.heap.size := (by have := hb2.size; first | omega | (simp at this; omega)); have hy2 : w.heap.size + 1 < w2.heap.size := (by omega); have hx2 : w.heap.size < w2.heap.size := (by omega)))
    have HB1 : Hid (Below w.heap.size w w1) := Below.trans (by (repeat (first | with_reducible exact Below.refl _ _ | with_reducible refine Below.setCell ?_ (by first | (simp; done) | (simp; omega) | omega) _ | with_reducible refine Below.alloc ?_ (by first | (simp; done) | (simp; omega) | omega) _ | with_reducible refine Below.drew ?_))) (hb1.mono (by simp; omega))
    have HB2 : Hid (Below w.heap.size w w2) := Below.trans (by (repeat (first | with_reducible exact Below.refl _ _ | with_reducible exact HB1.out | with_reducible refine Below.setCell ?_ (by first | (simp; done) | (simp; omega) | omega) _ | with_reducible refine Below.alloc ?_ (by first | (simp; done) | (simp; omega) | omega) _ | with_reducible refine Below.drew ?_))) (hb2.mono (by first | (simp; done) | (simp; omega) | omega))
    refine bodyPost_ret (v := .tuple #[.agg #[.int .i64 0, .int .i64 0, .int .i64 0, .int .i64 0], .int .i64 10]) (by simp [results, Try.results10, go_sem, *]) rfl ?_
    rw [HF.out]
    exact ⟨rfl, by (repeat (first | with_reducible exact Below.refl _ _ | with_reducible exact HB1.out | with_reducible exact HB2.out | with_reducible refine Below.setCell ?_ (by first | (simp; done) | (simp; omega) | omega) _ | with_reducible refine Below.alloc ?_ (by first | (simp; done) | (simp; omega) | omega) _ | with_reducible refine Below.drew ?_))⟩
  by_cases he : rs = c ∧ rg = d
  · have HF : Hid (r = ((0, 0, 0, 0), 10)) := by show _ = _; rw [← hr, resizeS, if_neg (by rw [hbase]; decide), if_pos (.inr (.inr he))]
    clear hr hbase hbt hform
    obtain ⟨rfl, rfl⟩ := he
    unfold I64 at *
    go_enter Try.func10, Try.ntmps10
    go_wp2_with (first | (go_at_call 29; refine (CB.out _).mono ?_; rintro e w1 ⟨rfl, hb1⟩; obtain ⟨hcc1, hcf1⟩ := below_cells hb1; have hz1 : w.heap.size + 1 < w1.heap.size := (by have := hb1.size; simp at this; omega); have hy1 : w.heap.size < w1.heap.size := (by omega)) | (go_at_call 30; refine (CF.out _).mono ?_; rintro e w2 ⟨rfl, hb2⟩; obtain ⟨hcc2, hcf2⟩ := below_cells hb2; have hz2 : w1.heap.size ≤ w2.heap.size := (by have := hb2.size; first | omega | (simp at this; omega)); have hy2 : w.heap.size + 1 < w2.heap.size := (by omega); have hx2 : w.heap.size < w2.heap.size := (by omega)))
    have HB1 : Hid (Below w.heap.size w w1) := Below.trans (by (repeat (first | with_reducible exact Below.refl _ _ | with_reducible refine Below.setCell ?_ (by first | (simp; done) | (simp; omega) | omega) _ | with_reducible refine Below.alloc ?_ (by first | (simp; done) | (simp; omega) | omega) _ | with_reducible refine Below.drew ?_))) (hb1.mono (by simp; omega))
    have HB2 : Hid (Below w.heap.size w w2) := Below.trans (by (repeat (first | with_reducible exact Below.refl _ _ | with_reducible exact HB1.out | with_reducible refine Below.setCell ?_ (by first | (simp; done) | (simp; omega) | omega) _ | with_reducible refine Below.alloc ?_ (by first | (simp; done) | (simp; omega) | omega) _ | with_reducible refine Below.drew ?_))) (hb2.mono (by first | (simp; done) | (simp; omega) | omega))
    refine bodyPost_ret (v := .tuple #[.agg #[.int .i64 0, .int .i64 0, .int .i64 0, .int .i64 0], .int .i64 10]) (by simp [results, Try.results10, go_sem, *]) rfl ?_
    rw [HF.out]
    exact ⟨rfl, by (repeat (first | with_reducible exact Below.refl _ _ | with_reducible exact HB1.out | with_reducible exact HB2.out | with_reducible refine Below.setCell ?_ (by first | (simp; done) | (simp; omega) | omega) _ | with_reducible refine Below.alloc ?_ (by first | (simp; done) | (simp; omega) | omega) _ | with_reducible refine Below.drew ?_))⟩
  have HF : Hid (r = ((a + 1, b, rs, rg), 0)) := by
    show _ = _
    rw [← hr, resizeS, if_neg (by rw [hbase]; decide), if_neg]
    rintro (h | h | h)
    · rw [hform] at h; cases h
    · omega
    · exact he h
  clear hr hbase hbt hform
  by_cases h1 : rs = c
  · have h2 : ¬ rg = d := fun h2 => he ⟨h1, h2⟩
    clear he
    subst h1
    have hgd : (rg == d) = false := by simpa using h2
    clear h2
    unfold I64 at *
    go_enter Try.func10, Try.ntmps10
    go_wp2_with (first | (go_at_call 29; refine (CB.out _).mono ?_; rintro e w1 ⟨rfl, hb1⟩; obtain ⟨hcc1, hcf1⟩ := below_cells hb1; have hz1 : w.heap.size + 1 < w1.heap.size := (by have := hb1.size; simp at this; omega); have hy1 : w.heap.size < w1.heap.size := (by omega)) | (go_at_call 30; refine (CF.out _).mono ?_; rintro e w2 ⟨rfl, hb2⟩; obtain ⟨hcc2, hcf2⟩ := below_cells hb2; have hz2 : w1.heap.size ≤ w2.heap.size := (by have := hb2.size; first | omega | (simp at this; omega)); have hy2 : w.heap.size + 1 < w2.heap.size := (by omega); have hx2 : w.heap.size < w2.heap.size := (by omega)))
    have HB1 : Hid (Below w.heap.size w w1) := Below.trans (by (repeat (first | with_reducible exact Below.refl _ _ | with_reducible refine Below.setCell ?_ (by first | (simp; done) | (simp; omega) | omega) _ | with_reducible refine Below.alloc ?_ (by first | (simp; done) | (simp; omega) | omega) _ | with_reducible refine Below.drew ?_))) (hb1.mono (by simp; omega))
    have HB2 : Hid (Below w.heap.size w w2) := Below.trans (by (repeat (first | with_reducible exact Below.refl _ _ | with_reducible exact HB1.out | with_reducible refine Below.setCell ?_ (by first | (simp; done) | (simp; omega) | omega) _ | with_reducible refine Below.alloc ?_ (by first | (simp; done) | (simp; omega) | omega) _ | with_reducible refine Below.drew ?_))) (hb2.mono (by first | (simp; done) | (simp; omega) | omega))
    refine bodyPost_ret (v := .tuple #[.agg #[.int .i64 (a + 1), .int .i64 b, .int .i64 rs, .int .i64 rg], .int .i64 0]) (by simp [results, Try.results10, go_sem, *]) rfl ?_
    rw [HF.out]
    exact ⟨rfl, by (repeat (first | with_reducible exact Below.refl _ _ | with_reducible exact HB1.out | with_reducible exact HB2.out | with_reducible refine Below.setCell ?_ (by first | (simp; done) | (simp; omega) | omega) _ | with_reducible refine Below.alloc ?_ (by first | (simp; done) | (simp; omega) | omega) _ | with_reducible refine Below.drew ?_))⟩
  · clear he
    unfold I64 at *
    go_enter Try.func10, Try.ntmps10
    go_wp2_with (first | (go_at_call 29; refine (CB.out _).mono ?_; rintro e w1 ⟨rfl, hb1⟩; obtain ⟨hcc1, hcf1⟩ := below_cells hb1; have hz1 : w.heap.size + 1 < w1.heap.size := (by have := hb1.size; simp at this; omega); have hy1 : w.heap.size < w1.heap.size := (by omega)) | (go_at_call 30; refine (CF.out _).mono ?_; rintro e w2 ⟨rfl, hb2⟩; obtain ⟨hcc2, hcf2⟩ := below_cells hb2; have hz2 : w1.heap.size ≤ w2.heap.size := (by have := hb2.size; first | omega | (simp at this; omega)); have hy2 : w.heap.size + 1 < w2.heap.size := (by omega); have hx2 : w.heap.size < w2.heap.size := (by omega)))
    have HB1 : Hid (Below w.heap.size w w1) := Below.trans (by (repeat (first | with_reducible exact Below.refl _ _ | with_reducible refine Below.setCell ?_ (by first | (simp; done) | (simp; omega) | omega) _ | with_reducible refine Below.alloc ?_ (by first | (simp; done) | (simp; omega) | omega) _ | with_reducible refine Below.drew ?_))) (hb1.mono (by simp; omega))
    have HB2 : Hid (Below w.heap.size w w2) := Below.trans (by (repeat (first | with_reducible exact Below.refl _ _ | with_reducible exact HB1.out | with_reducible refine Below.setCell ?_ (by first | (simp; done) | (simp; omega) | omega) _ | with_reducible refine Below.alloc ?_ (by first | (simp; done) | (simp; omega) | omega) _ | with_reducible refine Below.drew ?_))) (hb2.mono (by first | (simp; done) | (simp; omega) | omega))
    refine bodyPost_ret (v := .tuple #[.agg #[.int .i64 (a + 1), .int .i64 b, .int .i64 rs, .int .i64 rg], .int .i64 0]) (by simp [results, Try.results10, go_sem, *]) rfl ?_
    rw [HF.out]
    exact ⟨rfl, by (repeat (first | with_reducible exact Below.refl _ _ | with_reducible exact HB1.out | with_reducible exact HB2.out | with_reducible refine Below.setCell ?_ (by first | (simp; done) | (simp; omega) | omega) _ | with_reducible refine Below.alloc ?_ (by first | (simp; done) | (simp; omega) | omega) _ | with_reducible refine Below.drew ?_))⟩

set_option maxHeartbeats 1000000 in
theorem refResize_any (a b c d s rs rg : Int) (ha : I64 a) (hb : I64 b) (hc : I64 c) (hd : I64 d) (hrs : I64 rs) (hrg : I64 rg) (r : LE) (hr : resizeS a b c d s rs rg = r) (w : World) :
    Calls Try.prog 11 #[.agg #[.int .i64 a, .int .i64 b, .int .i64 c, .int .i64 d], .int .i64 s, .int .i64 rs, .int .i64 rg] w (LayRes r w) := by
  have CB := Lib.hid (may_any a b c d ha hb hc hd)
  cases hbase : baseB a b c d
  · rw [hbase] at CB
    have HF : Hid (r = ((0, 0, 0, 0), 4)) := by show _ = _; rw [← hr, resizeS, if_pos hbase]
    clear hr hbase
    unfold I64 at *
    go_enter Try.func11, Try.ntmps11
    go_wp2_with (first | (go_at_call 31; refine (CB.out _).mono ?_; rintro e w1 ⟨rfl, hb1⟩; obtain ⟨hcc1, hcf1⟩ := below_cells hb1; have hz1 : w.heap.size + 1 < w1.heap.size := (by have := hb1.size; simp at this; omega); have hy1 : w.heap.size < w1.heap.size := (by omega)))
    have HB1 : Hid (Below w.heap.size w w1) := Below.trans (by (repeat (first | with_reducible exact Below.refl _ _ | with_reducible refine Below.setCell ?_ (by first | (simp; done) | (simp; omega) | omega) _ | with_reducible refine Below.alloc ?_ (by first | (simp; done) | (simp; omega) | omega) _ | with_reducible refine Below.drew ?_))) (hb1.mono (by simp; omega))
    refine bodyPost_ret (v := .tuple #[.agg #[.int .i64 0, .int .i64 0, .int .i64 0, .int .i64 0], .int .i64 4]) (by simp [results, Try.results11, go_sem, *]) rfl ?_
    rw [HF.out]
    exact ⟨rfl, by (repeat (first | with_reducible exact Below.refl _ _ | with_reducible exact HB1.out | with_reducible refine Below.setCell ?_ (by first | (simp; done) | (simp; omega) | omega) _ | with_reducible refine Below.alloc ?_ (by first | (simp; done) | (simp; omega) | omega) _ | with_reducible refine Below.drew ?_))⟩
  rw [hbase] at CB
  obtain ⟨hbt, hba⟩ := baseB_true hbase
  obtain ⟨hf1, _⟩ := form_true hbt
  have CF := Lib.hid (refForm_any (a + 1) b rs rg ⟨by omega, by omega⟩ hb hrs hrg)
  cases hform : form (a + 1) b rs rg
  · rw [hform] at CF
    have HF : Hid (r = ((0, 0, 0, 0), 10)) := by show _ = _; rw [← hr, resizeS, if_neg (by rw [hbase]; decide), if_pos (.inl hform)]
    clear hr hbase hbt hform
    unfold I64 at *
    go_enter Try.func11, Try.ntmps11
    go_wp2_with (first | (go_at_call 31; refine (CB.out _).mono ?_; rintro e w1 ⟨rfl, hb1⟩; obtain ⟨hcc1, hcf1⟩ := below_cells hb1; have hz1 : w.heap.size + 1 < w1.heap.size := (by have := hb1.size; simp at this; omega); have hy1 : w.heap.size < w1.heap.size := (by omega)) | (go_at_call 17; refine (CF.out _).mono ?_; rintro e w2 ⟨rfl, hb2⟩; obtain ⟨hcc2, hcf2⟩ := below_cells hb2; have hz2 : w1.heap.size ≤ w2.heap.size := (by have := hb2.size; first | omega | (simp at this; omega)); have hy2 : w.heap.size + 1 < w2.heap.size := (by omega); have hx2 : w.heap.size < w2.heap.size := (by omega)))
    have HB1 : Hid (Below w.heap.size w w1) := Below.trans (by (repeat (first | with_reducible exact Below.refl _ _ | with_reducible refine Below.setCell ?_ (by first | (simp; done) | (simp; omega) | omega) _ | with_reducible refine Below.alloc ?_ (by first | (simp; done) | (simp; omega) | omega) _ | with_reducible refine Below.drew ?_))) (hb1.mono (by simp; omega))
    have HB2 : Hid (Below w.heap.size w w2) := Below.trans (by (repeat (first | with_reducible exact Below.refl _ _ | with_reducible exact HB1.out | with_reducible refine Below.setCell ?_ (by first | (simp; done) | (simp; omega) | omega) _ | with_reducible refine Below.alloc ?_ (by first | (simp; done) | (simp; omega) | omega) _ | with_reducible refine Below.drew ?_))) (hb2.mono (by first | (simp; done) | (simp; omega) | omega))
    refine bodyPost_ret (v := .tuple #[.agg #[.int .i64 0, .int .i64 0, .int .i64 0, .int .i64 0], .int .i64 10]) (by simp [results, Try.results11, go_sem, *]) rfl ?_
    rw [HF.out]
    exact ⟨rfl, by (repeat (first | with_reducible exact Below.refl _ _ | with_reducible exact HB1.out | with_reducible exact HB2.out | with_reducible refine Below.setCell ?_ (by first | (simp; done) | (simp; omega) | omega) _ | with_reducible refine Below.alloc ?_ (by first | (simp; done) | (simp; omega) | omega) _ | with_reducible refine Below.drew ?_))⟩
  rw [hform] at CF
  obtain ⟨_, _, _, q1, q2, _, q3, q4⟩ := form_true hform
  obtain ⟨q5, q6⟩ := area_le rg rs (by omega) q4 (by omega) q2
  rcases Int.lt_or_le s (74 + rg * rs) with hsz | hsz
  · have HF : Hid (r = ((0, 0, 0, 0), 10)) := by show _ = _; rw [← hr, resizeS, if_neg (by rw [hbase]; decide), if_pos (.inr (.inl hsz))]
    clear hr hbase hbt hform
    unfold I64 at *
    go_enter Try.func11, Try.ntmps11
    go_wp2_with (first | (go_at_call 31; refine (CB.out _).mono ?_; rintro e w1 ⟨rfl, hb1⟩; obtain ⟨hcc1, hcf1⟩ := below_cells hb1; have hz1 : w.heap.size + 1 < w1.heap.size := (by have := hb1.size; simp at this; omega); have hy1 : w.heap.size < w1.heap.size := (by omega)) | (go_at_call 17; refine (CF.out _).mono ?_; rintro e w2 ⟨rfl, hb2⟩; obtain ⟨hcc2, hcf2⟩ := below_cells hb2; have hz2 : w1.heap.size ≤ w2.heap.size := (by have := hb2.size; first | omega | (simp at this; omega)); have hy2 : w.heap.size + 1 < w2.heap.size := (by omega); have hx2 : w.heap.size < w2.heap.size := (by omega)))
    have HB1 : Hid (Below w.heap.size w w1) := Below.trans (by (repeat (first | with_reducible exact Below.refl _ _ | with_reducible refine Below.setCell ?_ (by first | (simp; done) | (simp; omega) | omega) _ | with_reducible refine Below.alloc ?_ (by first | (simp; done) | (simp; omega) | omega) _ | with_reducible refine Below.drew ?_))) (hb1.mono (by simp; omega))
    have HB2 : Hid (Below w.heap.size w w2) := Below.trans (by (repeat (first | with_reducible exact Below.refl _ _ | with_reducible exact HB1.out | with_reducible refine Below.setCell ?_ (by first | (simp; done) | (simp; omega) | omega) _ | with_reducible refine Below.alloc ?_ (by first | (simp; done) | (simp; omega) | omega) _ | with_reducible refine Below.drew ?_))) (hb2.mono (by first | (simp; done) | (simp; omega) | omega))
    refine bodyPost_ret (v := .tuple #[.agg #[.int .i64 0, .int .i64 0, .int .i64 0, .int .i64 0], .int .i64 10]) (by simp [results, Try.results11, go_sem, *]) rfl ?_
    rw [HF.out]
    exact ⟨rfl, by (repeat (first | with_reducible exact Below.refl _ _ | with_reducible exact HB1.out | with_reducible exact HB2.out | with_reducible refine Below.setCell ?_ (by first | (simp; done) | (simp; omega) | omega) _ | with_reducible refine Below.alloc ?_ (by first | (simp; done) | (simp; omega) | omega) _ | with_reducible refine Below.drew ?_))⟩
  by_cases he : rs = c ∧ rg = d
  · have HF : Hid (r = ((0, 0, 0, 0), 10)) := by show _ = _; rw [← hr, resizeS, if_neg (by rw [hbase]; decide), if_pos (.inr (.inr he))]
    clear hr hbase hbt hform
    obtain ⟨rfl, rfl⟩ := he
    unfold I64 at *
    go_enter Try.func11, Try.ntmps11
    go_wp2_with (first | (go_at_call 31; refine (CB.out _).mono ?_; rintro e w1 ⟨rfl, hb1⟩; obtain ⟨hcc1, hcf1⟩ := below_cells hb1; have hz1 : w.heap.size + 1 < w1.heap.size := (by have := hb1.size; simp at this; omega); have hy1 : w.heap.size < w1.heap.size := (by omega)) | (go_at_call 17; refine (CF.out _).mono ?_; rintro e w2 ⟨rfl, hb2⟩; obtain ⟨hcc2, hcf2⟩ := below_cells hb2; have hz2 : w1.heap.size ≤ w2.heap.size := (by have := hb2.size; first | omega | (simp at this; omega)); have hy2 : w.heap.size + 1 < w2.heap.size := (by omega); have hx2 : w.heap.size < w2.heap.size := (by omega)))
    have HB1 : Hid (Below w.heap.size w w1) := Below.trans (by (repeat (first | with_reducible exact Below.refl _ _ | with_reducible refine Below.setCell ?_ (by first | (simp; done) | (simp; omega) | omega) _ | with_reducible refine Below.alloc ?_ (by first | (simp; done) | (simp; omega) | omega) _ | with_reducible refine Below.drew ?_))) (hb1.mono (by simp; omega))
    have HB2 : Hid (Below w.heap.size w w2) := Below.trans (by (repeat (first | with_reducible exact Below.refl _ _ | with_reducible exact HB1.out | with_reducible refine Below.setCell ?_ (by first | (simp; done) | (simp; omega) | omega) _ | with_reducible refine Below.alloc ?_ (by first | (simp; done) | (simp; omega) | omega) _ | with_reducible refine Below.drew ?_))) (hb2.mono (by first | (simp; done) | (simp; omega) | omega))
    refine bodyPost_ret (v := .tuple #[.agg #[.int .i64 0, .int .i64 0, .int .i64 0, .int .i64 0], .int .i64 10]) (by simp [results, Try.results11, go_sem, *]) rfl ?_
    rw [HF.out]
    exact ⟨rfl, by (repeat (first | with_reducible exact Below.refl _ _ | with_reducible exact HB1.out | with_reducible exact HB2.out | with_reducible refine Below.setCell ?_ (by first | (simp; done) | (simp; omega) | omega) _ | with_reducible refine Below.alloc ?_ (by first | (simp; done) | (simp; omega) | omega) _ | with_reducible refine Below.drew ?_))⟩
  have HF : Hid (r = ((a + 1, b, rs, rg), 0)) := by
    show _ = _
    rw [← hr, resizeS, if_neg (by rw [hbase]; decide), if_neg]
    rintro (h | h | h)
    · rw [hform] at h; cases h
    · omega
    · exact he h
  clear hr hbase hbt hform
  by_cases h1 : rs = c
  · have h2 : ¬ rg = d := fun h2 => he ⟨h1, h2⟩
    clear he
    subst h1
    have hgd : (rg == d) = false := by simpa using h2
    clear h2
    unfold I64 at *
    go_enter Try.func11, Try.ntmps11
    go_wp2_with (first | (go_at_call 31; refine (CB.out _).mono ?_; rintro e w1 ⟨rfl, hb1⟩; obtain ⟨hcc1, hcf1⟩ := below_cells hb1; have hz1 : w.heap.size + 1 < w1.heap.size := (by have := hb1.size; simp at this; omega); have hy1 : w.heap.size < w1.heap.size := (by omega)) | (go_at_call 17; refine (CF.out _).mono ?_; rintro e w2 ⟨rfl, hb2⟩; obtain ⟨hcc2, hcf2⟩ := below_cells hb2; have hz2 : w1.heap.size ≤ w2.heap.size := (by have := hb2.size; first | omega | (simp at this; omega)); have hy2 : w.heap.size + 1 < w2.heap.size := (by omega); have hx2 : w.heap.size < w2.heap.size := (by omega)))
    have HB1 : Hid (Below w.heap.size w w1) := Below.trans (by (repeat (first | with_reducible exact Below.refl _ _ | with_reducible refine Below.setCell ?_ (by first | (simp; done) | (simp; omega) | omega) _ | with_reducible refine Below.alloc ?_ (by first | (simp; done) | (simp; omega) | omega) _ | with_reducible refine Below.drew ?_))) (hb1.mono (by simp; omega))
    have HB2 : Hid (Below w.heap.size w w2) := Below.trans (by (repeat (first | with_reducible exact Below.refl _ _ | with_reducible exact HB1.out | with_reducible refine Below.setCell ?_ (by first | (simp; done) | (simp; omega) | omega) _ | with_reducible refine Below.alloc ?_ (by first | (simp; done) | (simp; omega) | omega) _ | with_reducible refine Below.drew ?_))) (hb2.mono (by first | (simp; done) | (simp; omega) | omega))
    refine bodyPost_ret (v := .tuple #[.agg #[.int .i64 (a + 1), .int .i64 b, .int .i64 rs, .int .i64 rg], .int .i64 0]) (by simp [results, Try.results11, go_sem, *]) rfl ?_
    rw [HF.out]
    exact ⟨rfl, by (repeat (first | with_reducible exact Below.refl _ _ | with_reducible exact HB1.out | with_reducible exact HB2.out | with_reducible refine Below.setCell ?_ (by first | (simp; done) | (simp; omega) | omega) _ | with_reducible refine Below.alloc ?_ (by first | (simp; done) | (simp; omega) | omega) _ | with_reducible refine Below.drew ?_))⟩
  · clear he
    unfold I64 at *
    go_enter Try.func11, Try.ntmps11
    go_wp2_with (first | (go_at_call 31; refine (CB.out _).mono ?_; rintro e w1 ⟨rfl, hb1⟩; obtain ⟨hcc1, hcf1⟩ := below_cells hb1; have hz1 : w.heap.size + 1 < w1.heap.size := (by have := hb1.size; simp at this; omega); have hy1 : w.heap.size < w1.heap.size := (by omega)) | (go_at_call 17; refine (CF.out _).mono ?_; rintro e w2 ⟨rfl, hb2⟩; obtain ⟨hcc2, hcf2⟩ := below_cells hb2; have hz2 : w1.heap.size ≤ w2.heap.size := (by have := hb2.size; first | omega | (simp at this; omega)); have hy2 : w.heap.size + 1 < w2.heap.size := (by omega); have hx2 : w.heap.size < w2.heap.size := (by omega)))
    have HB1 : Hid (Below w.heap.size w w1) := Below.trans (by (repeat (first | with_reducible exact Below.refl _ _ | with_reducible refine Below.setCell ?_ (by first | (simp; done) | (simp; omega) | omega) _ | with_reducible refine Below.alloc ?_ (by first | (simp; done) | (simp; omega) | omega) _ | with_reducible refine Below.drew ?_))) (hb1.mono (by simp; omega))
    have HB2 : Hid (Below w.heap.size w w2) := Below.trans (by (repeat (first | with_reducible exact Below.refl _ _ | with_reducible exact HB1.out | with_reducible refine Below.setCell ?_ (by first | (simp; done) | (simp; omega) | omega) _ | with_reducible refine Below.alloc ?_ (by first | (simp; done) | (simp; omega) | omega) _ | with_reducible refine Below.drew ?_))) (hb2.mono (by first | (simp; done) | (simp; omega) | omega))
    refine bodyPost_ret (v := .tuple #[.agg #[.int .i64 (a + 1), .int .i64 b, .int .i64 rs, .int .i64 rg], .int .i64 0]) (by simp [results, Try.results11, go_sem, *]) rfl ?_
    rw [HF.out]
    exact ⟨rfl, by (repeat (first | with_reducible exact Below.refl _ _ | with_reducible exact HB1.out | with_reducible exact HB2.out | with_reducible refine Below.setCell ?_ (by first | (simp; done) | (simp; omega) | omega) _ | with_reducible refine Below.alloc ?_ (by first | (simp; done) | (simp; omega) | omega) _ | with_reducible refine Below.drew ?_))⟩

set_option maxHeartbeats 1000000 in
theorem upgrade_any (a b c d : Int) (ha : I64 a) (hb : I64 b) (hc : I64 c) (hd : I64 d) (r : LE) (hr : upgradeS a b c d = r) (w : World) :
    Calls Try.prog 13 #[.agg #[.int .i64 a, .int .i64 b, .int .i64 c, .int .i64 d]] w (LayRes r w) := by
  have CB := Lib.hid (base_any a b c d ha hb hc hd)
  cases hbase : baseB a b c d
  · rw [hbase] at CB
    have HF : Hid (r = ((0, 0, 0, 0), 4)) := by show _ = _; rw [← hr, upgradeS, if_pos hbase]
    clear hr hbase
    unfold I64 at *
    go_enter Try.func13, Try.ntmps13
    go_wp2_with (first | (go_at_call 29; refine (CB.out _).mono ?_; rintro e w1 ⟨rfl, hb1⟩; obtain ⟨hcc1, hcf1⟩ := below_cells hb1; have hz1 : w.heap.size + 1 < w1.heap.size := (by have := hb1.size; simp at this; omega); have hy1 : w.heap.size < w1.heap.size := (by omega); have c0 : w1.cell? ⟨w.heap.size, 0, none⟩ = some (.int .i64 a) := (by rw [hcc1 _ _ (by first | (simp; done) | (simp; omega) | omega)]; go_simp); have c1 : w1.cell? ⟨w.heap.size, 1, none⟩ = some (.int .i64 b) := (by rw [hcc1 _ _ (by first | (simp; done) | (simp; omega) | omega)]; go_simp); have c2 : w1.cell? ⟨w.heap.size, 2, none⟩ = some (.int .i64 c) := (by rw [hcc1 _ _ (by first | (simp; done) | (simp; omega) | omega)]; go_simp); have c3 : w1.cell? ⟨w.heap.size, 3, none⟩ = some (.int .i64 d) := (by rw [hcc1 _ _ (by first | (simp; done) | (simp; omega) | omega)]; go_simp)))
    have HB1 : Hid (Below w.heap.size w w1) := Below.trans (by (repeat (first | with_reducible exact Below.refl _ _ | with_reducible refine Below.setCell ?_ (by first | (simp; done) | (simp; omega) | omega) _ | with_reducible refine Below.alloc ?_ (by first | (simp; done) | (simp; omega) | omega) _ | with_reducible refine Below.drew ?_))) (hb1.mono (by simp; omega))
    refine bodyPost_ret (v := .tuple #[.agg #[.int .i64 0, .int .i64 0, .int .i64 0, .int .i64 0], .int .i64 4]) (by simp [results, Try.results13, go_sem, *]) rfl ?_
    rw [HF.out]
    exact ⟨rfl, by (repeat (first | with_reducible exact Below.refl _ _ | with_reducible exact HB1.out | with_reducible refine Below.setCell ?_ (by first | (simp; done) | (simp; omega) | omega) _ | with_reducible refine Below.alloc ?_ (by first | (simp; done) | (simp; omega) | omega) _ | with_reducible refine Below.drew ?_))⟩
  rw [hbase] at CB
  obtain ⟨hbt, hba⟩ := baseB_true hbase
  obtain ⟨hf1, _⟩ := form_true hbt
  by_cases h2 : b = 2
  · have HF : Hid (r = ((0, 0, 0, 0), 10)) := by show _ = _; rw [← hr, upgradeS, if_neg (by rw [hbase]; decide), if_pos h2]
    clear hr hbase hbt
    have hbb : (b == 2) = true := by simpa using h2
    clear h2
    unfold I64 at *
    go_enter Try.func13, Try.ntmps13
    go_wp2_with (first | (go_at_call 29; refine (CB.out _).mono ?_; rintro e w1 ⟨rfl, hb1⟩; obtain ⟨hcc1, hcf1⟩ := below_cells hb1; have hz1 : w.heap.size + 1 < w1.heap.size := (by have := hb1.size; simp at this; omega); have hy1 : w.heap.size < w1.heap.size := (by omega); have c0 : w1.cell? ⟨w.heap.size, 0, none⟩ = some (.int .i64 a) := (by rw [hcc1 _ _ (by first | (simp; done) | (simp; omega) | omega)]; go_simp); have c1 : w1.cell? ⟨w.heap.size, 1, none⟩ = some (.int .i64 b) := (by rw [hcc1 _ _ (by first | (simp; done) | (simp; omega) | omega)]; go_simp); have c2 : w1.cell? ⟨w.heap.size, 2, none⟩ = some (.int .i64 c) := (by rw [hcc1 _ _ (by first | (simp; done) | (simp; omega) | omega)]; go_simp); have c3 : w1.cell? ⟨w.heap.size, 3, none⟩ = some (.int .i64 d) := (by rw [hcc1 _ _ (by first | (simp; done) | (simp; omega) | omega)]; go_simp)))
    have HB1 : Hid (Below w.heap.size w w1) := Below.trans (by (repeat (first | with_reducible exact Below.refl _ _ | with_reducible refine Below.setCell ?_ (by first | (simp; done) | (simp; omega) | omega) _ | with_reducible refine Below.alloc ?_ (by first | (simp; done) | (simp; omega) | omega) _ | with_reducible refine Below.drew ?_))) (hb1.mono (by simp; omega))
    refine bodyPost_ret (v := .tuple #[.agg #[.int .i64 0, .int .i64 0, .int .i64 0, .int .i64 0], .int .i64 10]) (by simp [results, Try.results13, go_sem, *]) rfl ?_
    rw [HF.out]
    exact ⟨rfl, by (repeat (first | with_reducible exact Below.refl _ _ | with_reducible exact HB1.out | with_reducible refine Below.setCell ?_ (by first | (simp; done) | (simp; omega) | omega) _ | with_reducible refine Below.alloc ?_ (by first | (simp; done) | (simp; omega) | omega) _ | with_reducible refine Below.drew ?_))⟩
  · have HF : Hid (r = ((a + 1, 2, c, d), 0)) := by show _ = _; rw [← hr, upgradeS, if_neg (by rw [hbase]; decide), if_neg h2]
    clear hr hbase hbt
    have hbb : (b == 2) = false := by simpa using h2
    clear h2
    unfold I64 at *
    go_enter Try.func13, Try.ntmps13
    go_wp2_with (first | (go_at_call 29; refine (CB.out _).mono ?_; rintro e w1 ⟨rfl, hb1⟩; obtain ⟨hcc1, hcf1⟩ := below_cells hb1; have hz1 : w.heap.size + 1 < w1.heap.size := (by have := hb1.size; simp at this; omega); have hy1 : w.heap.size < w1.heap.size := (by omega); have c0 : w1.cell? ⟨w.heap.size, 0, none⟩ = some (.int .i64 a) := (by rw [hcc1 _ _ (by first | (simp; done) | (simp; omega) | omega)]; go_simp); have c1 : w1.cell? ⟨w.heap.size, 1, none⟩ = some (.int .i64 b) := (by rw [hcc1 _ _ (by first | (simp; done) | (simp; omega) | omega)]; go_simp); have c2 : w1.cell? ⟨w.heap.size, 2, none⟩ = some (.int .i64 c) := (by rw [hcc1 _ _ (by first | (simp; done) | (simp; omega) | omega)]; go_simp); have c3 : w1.cell? ⟨w.heap.size, 3, none⟩ = some (.int .i64 d) := (by rw [hcc1 _ _ (by first | (simp; done) | (simp; omega) | omega)]; go_simp)))
    have HB1 : Hid (Below w.heap.size w w1) := Below.trans (by (repeat (first | with_reducible exact Below.refl _ _ | with_reducible refine Below.setCell ?_ (by first | (simp; done) | (simp; omega) | omega) _ | with_reducible refine Below.alloc ?_ (by first | (simp; done) | (simp; omega) | omega) _ | with_reducible refine Below.drew ?_))) (hb1.mono (by simp; omega))
    refine bodyPost_ret (v := .tuple #[.agg #[.int .i64 (a + 1), .int .i64 2, .int .i64 c, .int .i64 d], .int .i64 0]) (by simp [results, Try.results13, go_sem, *]) rfl ?_
    rw [HF.out]
    exact ⟨rfl, by (repeat (first | with_reducible exact Below.refl _ _ | with_reducible exact HB1.out | with_reducible refine Below.setCell ?_ (by first | (simp; done) | (simp; omega) | omega) _ | with_reducible refine Below.alloc ?_ (by first | (simp; done) | (simp; omega) | omega) _ | with_reducible refine Below.drew ?_))⟩

set_option maxHeartbeats 1000000 in
theorem refUpgrade_any (a b c d : Int) (ha : I64 a) (hb : I64 b) (hc : I64 c) (hd : I64 d) (r : LE) (hr : upgradeS a b c d = r) (w : World) :
    Calls Try.prog 14 #[.agg #[.int .i64 a, .int .i64 b, .int .i64 c, .int .i64 d]] w (LayRes r w) := by
  have CB := Lib.hid (may_any a b c d ha hb hc hd)
  cases hbase : baseB a b c d
  · rw [hbase] at CB
    have HF : Hid (r = ((0, 0, 0, 0), 4)) := by show _ = _; rw [← hr, upgradeS, if_pos hbase]
    clear hr hbase
    unfold I64 at *
    go_enter Try.func14, Try.ntmps14
    go_wp2_with (first | (go_at_call 31; refine (CB.out _).mono ?_; rintro e w1 ⟨rfl, hb1⟩; obtain ⟨hcc1, hcf1⟩ := below_cells hb1; have hz1 : w.heap.size + 1 < w1.heap.size := (by have := hb1.size; simp at this; omega); have hy1 : w.heap.size < w1.heap.size := (by omega); have c0 : w1.cell? ⟨w.heap.size, 0, none⟩ = some (.int .i64 a) := (by rw [hcc1 _ _ (by first | (simp; done) | (simp; omega) | omega)]; go_simp); have c1 : w1.cell? ⟨w.heap.size, 1, none⟩ = some (.int .i64 b) := (by rw [hcc1 _ _ (by first | (simp; done) | (simp; omega) | omega)]; go_simp); have c2 : w1.cell? ⟨w.heap.size, 2, none⟩ = some (.int .i64 c) := (by rw [hcc1 _ _ (by first | (simp; done) | (simp; omega) | omega)]; go_simp); have c3 : w1.cell? ⟨w.heap.size, 3, none⟩ = some (.int .i64 d) := (by rw [hcc1 _ _ (by first | (simp; done) | (simp; omega) | omega)]; go_simp)))
    have HB1 : Hid (Below w.heap.size w w1) := Below.trans (by (repeat (first | with_reducible exact Below.refl _ _ | with_reducible refine Below.setCell ?_ (by first | (simp; done) | (simp; omega) | omega) _ | with_reducible refine Below.alloc ?_ (by first | (simp; done) | (simp; omega) | omega) _ | with_reducible refine Below.drew ?_))) (hb1.mono (by simp; omega))
    refine bodyPost_ret (v := .tuple #[.agg #[.int .i64 0, .int .i64 0, .int .i64 0, .int .i64 0], .int .i64 4]) (by simp [results, Try.results14, go_sem, *]) rfl ?_
    rw [HF.out]
    exact ⟨rfl, by (repeat (first | with_reducible exact Below.refl _ _ | with_reducible exact HB1.out | with_reducible refine Below.setCell ?_ (by first | (simp; done) | (simp; omega) | omega) _ | with_reducible refine Below.alloc ?_ (by first | (simp; done) | (simp; omega) | omega) _ | with_reducible refine Below.drew ?_))⟩
  rw [hbase] at CB
  obtain ⟨hbt, hba⟩ := baseB_true hbase
  obtain ⟨hf1, _⟩ := form_true hbt
  by_cases h2 : b = 2
  · have HF : Hid (r = ((0, 0, 0, 0), 10)) := by show _ = _; rw [← hr, upgradeS, if_neg (by rw [hbase]; decide), if_pos h2]
    clear hr hbase hbt
    have hbb : (b == 2) = true := by simpa using h2
    clear h2
    unfold I64 at *
    go_enter Try.func14, Try.ntmps14
    go_wp2_with (first | (go_at_call 31; refine (CB.out _).mono ?_; rintro e w1 ⟨rfl, hb1⟩; obtain ⟨hcc1, hcf1⟩ := below_cells hb1; have hz1 : w.heap.size + 1 < w1.heap.size := (by have := hb1.size; simp at this; omega); have hy1 : w.heap.size < w1.heap.size := (by omega); have c0 : w1.cell? ⟨w.heap.size, 0, none⟩ = some (.int .i64 a) := (by rw [hcc1 _ _ (by first | (simp; done) | (simp; omega) | omega)]; go_simp); have c1 : w1.cell? ⟨w.heap.size, 1, none⟩ = some (.int .i64 b) := (by rw [hcc1 _ _ (by first | (simp; done) | (simp; omega) | omega)]; go_simp); have c2 : w1.cell? ⟨w.heap.size, 2, none⟩ = some (.int .i64 c) := (by rw [hcc1 _ _ (by first | (simp; done) | (simp; omega) | omega)]; go_simp); have c3 : w1.cell? ⟨w.heap.size, 3, none⟩ = some (.int .i64 d) := (by rw [hcc1 _ _ (by first | (simp; done) | (simp; omega) | omega)]; go_simp)))
    have HB1 : Hid (Below w.heap.size w w1) := Below.trans (by (repeat (first | with_reducible exact Below.refl _ _ | with_reducible refine Below.setCell ?_ (by first | (simp; done) | (simp; omega) | omega) _ | with_reducible refine Below.alloc ?_ (by first | (simp; done) | (simp; omega) | omega) _ | with_reducible refine Below.drew ?_))) (hb1.mono (by simp; omega))
    refine bodyPost_ret (v := .tuple #[.agg #[.int .i64 0, .int .i64 0, .int .i64 0, .int .i64 0], .int .i64 10]) (by simp [results, Try.results14, go_sem, *]) rfl ?_
    rw [HF.out]
    exact ⟨rfl, by (repeat (first | with_reducible exact Below.refl _ _ | with_reducible exact HB1.out | with_reducible refine Below.setCell ?_ (by first | (simp; done) | (simp; omega) | omega) _ | with_reducible refine Below.alloc ?_ (by first | (simp; done) | (simp; omega) | omega) _ | with_reducible refine Below.drew ?_))⟩
  · have HF : Hid (r = ((a + 1, 2, c, d), 0)) := by show _ = _; rw [← hr, upgradeS, if_neg (by rw [hbase]; decide), if_neg h2]
    clear hr hbase hbt
    have hbb : (b == 2) = false := by simpa using h2
    clear h2
    unfold I64 at *
    go_enter Try.func14, Try.ntmps14
    go_wp2_with (first | (go_at_call 31; refine (CB.out _).mono ?_; rintro e w1 ⟨rfl, hb1⟩; obtain ⟨hcc1, hcf1⟩ := below_cells hb1; have hz1 : w.heap.size + 1 < w1.heap.size := (by have := hb1.size; simp at this; omega); have hy1 : w.heap.size < w1.heap.size := (by omega); have c0 : w1.cell? ⟨w.heap.size, 0, none⟩ = some (.int .i64 a) := (by rw [hcc1 _ _ (by first | (simp; done) | (simp; omega) | omega)]; go_simp); have c1 : w1.cell? ⟨w.heap.size, 1, none⟩ = some (.int .i64 b) := (by rw [hcc1 _ _ (by first | (simp; done) | (simp; omega) | omega)]; go_simp); have c2 : w1.cell? ⟨w.heap.size, 2, none⟩ = some (.int .i64 c) := (by rw [hcc1 _ _ (by first | (simp; done) | (simp; omega) | omega)]; go_simp); have c3 : w1.cell? ⟨w.heap.size, 3, none⟩ = some (.int .i64 d) := (by rw [hcc1 _ _ (by first | (simp; done) | (simp; omega) | omega)]; go_simp)))
    have HB1 : Hid (Below w.heap.size w w1) := Below.trans (by (repeat (first | with_reducible exact Below.refl _ _ | with_reducible refine Below.setCell ?_ (by first | (simp; done) | (simp; omega) | omega) _ | with_reducible refine Below.alloc ?_ (by first | (simp; done) | (simp; omega) | omega) _ | with_reducible refine Below.drew ?_))) (hb1.mono (by simp; omega))
    refine bodyPost_ret (v := .tuple #[.agg #[.int .i64 (a + 1), .int .i64 2, .int .i64 c, .int .i64 d], .int .i64 0]) (by simp [results, Try.results14, go_sem, *]) rfl ?_
    rw [HF.out]
    exact ⟨rfl, by (repeat (first | with_reducible exact Below.refl _ _ | with_reducible exact HB1.out | with_reducible refine Below.setCell ?_ (by first | (simp; done) | (simp; omega) | omega) _ | with_reducible refine Below.alloc ?_ (by first | (simp; done) | (simp; omega) | omega) _ | with_reducible refine Below.drew ?_))⟩

set_option maxHeartbeats 1000000 in
theorem ret_any (a b c d a' b' c' d' : Int) (ha : I64 a) (hb : I64 b) (hc : I64 c) (hd : I64 d) (ha' : I64 a') (hb' : I64 b') (hc' : I64 c') (hd' : I64 d') (r : LE) (hr : returnS a b c d a' b' c' d' = r) (w : World) :
    Calls Try.prog 15 #[.agg #[.int .i64 a, .int .i64 b, .int .i64 c, .int .i64 d], .agg #[.int .i64 a', .int .i64 b', .int .i64 c', .int .i64 d']] w (LayRes r w) := by
  have CB := Lib.hid (base_any a b c d ha hb hc hd)
  have CF := Lib.hid (base_any a' b' c' d' ha' hb' hc' hd')
  cases hbase : baseB a b c d
  · rw [hbase] at CB
    have HF : Hid (r = ((0, 0, 0, 0), 4)) := by show _ = _; rw [← hr, returnS, if_pos (.inl hbase)]
    clear hr hbase CF
    unfold I64 at *
    go_enter Try.func15, Try.ntmps15
    go_wp2_with fail
    with_reducible refine (CB.out _).mono ?_; rintro e w1 ⟨rfl, hb1⟩; obtain ⟨hcc1, hcf1⟩ := below_cells hb1; have hz1 : w.heap.size + 1 < w1.heap.size := (by have := hb1.size; simp at this; omega); have hy1 : w.heap.size < w1.heap.size := (by omega); have hv1 : w.heap.size + 2 < w1.heap.size := (by have := hb1.size; simp at this; omega); have c0 : w1.cell? ⟨w.heap.size, 0, none⟩ = some (.int .i64 a) := (by rw [hcc1 _ _ (by first | (simp; done) | (simp; omega) | omega)]; go_simp); have c1 : w1.cell? ⟨w.heap.size, 1, none⟩ = some (.int .i64 b) := (by rw [hcc1 _ _ (by first | (simp; done) | (simp; omega) | omega)]; go_simp); have c2 : w1.cell? ⟨w.heap.size, 2, none⟩ = some (.int .i64 c) := (by rw [hcc1 _ _ (by first | (simp; done) | (simp; omega) | omega)]; go_simp); have c3 : w1.cell? ⟨w.heap.size, 3, none⟩ = some (.int .i64 d) := (by rw [hcc1 _ _ (by first | (simp; done) | (simp; omega) | omega)]; go_simp); have t0 : w1.cell? ⟨w.heap.size + 1, 0, none⟩ = some (.int .i64 a') := (by rw [hcc1 _ _ (by first | (simp; done) | (simp; omega) | omega)]; go_simp); clear CB
    go_wp2_with fail
    have HB1 : Hid (Below w.heap.size w w1) := Below.trans (by (repeat (first | with_reducible exact Below.refl _ _ | with_reducible refine Below.setCell ?_ (by first | (simp; done) | (simp; omega) | omega) _ | with_reducible refine Below.alloc ?_ (by first | (simp; done) | (simp; omega) | omega) _ | with_reducible refine Below.drew ?_))) (hb1.mono (by simp; omega))
    refine bodyPost_ret (v := .tuple #[.agg #[.int .i64 0, .int .i64 0, .int .i64 0, .int .i64 0], .int .i64 4]) (by simp [results, Try.results15, go_sem, *]) rfl ?_
    rw [HF.out]
    exact ⟨rfl, by (repeat (first | with_reducible exact Below.refl _ _ | with_reducible exact HB1.out | with_reducible refine Below.setCell ?_ (by first | (simp; done) | (simp; omega) | omega) _ | with_reducible refine Below.alloc ?_ (by first | (simp; done) | (simp; omega) | omega) _ | with_reducible refine Below.drew ?_))⟩
  rw [hbase] at CB
  cases hbase' : baseB a' b' c' d'
  · rw [hbase'] at CF
    have HF : Hid (r = ((0, 0, 0, 0), 4)) := by show _ = _; rw [← hr, returnS, if_pos (.inr hbase')]
    clear hr hbase hbase'
    unfold I64 at *
    go_enter Try.func15, Try.ntmps15
    go_wp2_with fail
    with_reducible refine (CB.out _).mono ?_; rintro e w1 ⟨rfl, hb1⟩; obtain ⟨hcc1, hcf1⟩ := below_cells hb1; have hz1 : w.heap.size + 1 < w1.heap.size := (by have := hb1.size; simp at this; omega); have hy1 : w.heap.size < w1.heap.size := (by omega); have hv1 : w.heap.size + 2 < w1.heap.size := (by have := hb1.size; simp at this; omega); have c0 : w1.cell? ⟨w.heap.size, 0, none⟩ = some (.int .i64 a) := (by rw [hcc1 _ _ (by first | (simp; done) | (simp; omega) | omega)]; go_simp); have c1 : w1.cell? ⟨w.heap.size, 1, none⟩ = some (.int .i64 b) := (by rw [hcc1 _ _ (by first | (simp; done) | (simp; omega) | omega)]; go_simp); have c2 : w1.cell? ⟨w.heap.size, 2, none⟩ = some (.int .i64 c) := (by rw [hcc1 _ _ (by first | (simp; done) | (simp; omega) | omega)]; go_simp); have c3 : w1.cell? ⟨w.heap.size, 3, none⟩ = some (.int .i64 d) := (by rw [hcc1 _ _ (by first | (simp; done) | (simp; omega) | omega)]; go_simp); have t0 : w1.cell? ⟨w.heap.size + 1, 0, none⟩ = some (.int .i64 a') := (by rw [hcc1 _ _ (by first | (simp; done) | (simp; omega) | omega)]; go_simp); clear CB
    go_wp2_with fail
    with_reducible refine (CF.out _).mono ?_; rintro e w2 ⟨rfl, hb2⟩; obtain ⟨hcc2, hcf2⟩ := below_cells hb2; have hz2 : w1.heap.size ≤ w2.heap.size := (by have := hb2.size; first | omega | (simp at this; omega)); have hy2 : w.heap.size + 1 < w2.heap.size := (by omega); have hx2 : w.heap.size < w2.heap.size := (by omega); have d0 : w2.cell? ⟨w.heap.size, 0, none⟩ = some (.int .i64 a) := (by rw [hcc2 _ _ (by first | (simp; done) | (simp; omega) | omega)]; exact c0); have d1 : w2.cell? ⟨w.heap.size, 1, none⟩ = some (.int .i64 b) := (by rw [hcc2 _ _ (by first | (simp; done) | (simp; omega) | omega)]; exact c1); have d2 : w2.cell? ⟨w.heap.size, 2, none⟩ = some (.int .i64 c) := (by rw [hcc2 _ _ (by first | (simp; done) | (simp; omega) | omega)]; exact c2); have d3 : w2.cell? ⟨w.heap.size, 3, none⟩ = some (.int .i64 d) := (by rw [hcc2 _ _ (by first | (simp; done) | (simp; omega) | omega)]; exact c3); have t1 : w2.cell? ⟨w.heap.size + 1, 0, none⟩ = some (.int .i64 a') := (by rw [hcc2 _ _ (by first | (simp; done) | (simp; omega) | omega)]; exact t0)
    go_wp2_with fail
    have HB1 : Hid (Below w.heap.size w w1) := Below.trans (by (repeat (first | with_reducible exact Below.refl _ _ | with_reducible refine Below.setCell ?_ (by first | (simp; done) | (simp; omega) | omega) _ | with_reducible refine Below.alloc ?_ (by first | (simp; done) | (simp; omega) | omega) _ | with_reducible refine Below.drew ?_))) (hb1.mono (by simp; omega))
    have HB2 : Hid (Below w.heap.size w w2) := Below.trans (by (repeat (first | with_reducible exact Below.refl _ _ | with_reducible exact HB1.out | with_reducible refine Below.setCell ?_ (by first | (simp; done) | (simp; omega) | omega) _ | with_reducible refine Below.alloc ?_ (by first | (simp; done) | (simp; omega) | omega) _ | with_reducible refine Below.drew ?_))) (hb2.mono (by first | (simp; done) | (simp; omega) | omega))
    refine bodyPost_ret (v := .tuple #[.agg #[.int .i64 0, .int .i64 0, .int .i64 0, .int .i64 0], .int .i64 4]) (by simp [results, Try.results15, go_sem, *]) rfl ?_
    rw [HF.out]
    exact ⟨rfl, by (repeat (first | with_reducible exact Below.refl _ _ | with_reducible exact HB1.out | with_reducible exact HB2.out | with_reducible refine Below.setCell ?_ (by first | (simp; done) | (simp; omega) | omega) _ | with_reducible refine Below.alloc ?_ (by first | (simp; done) | (simp; omega) | omega) _ | with_reducible refine Below.drew ?_))⟩
  rw [hbase'] at CF
  obtain ⟨hbt, hba⟩ := baseB_true hbase'
  obtain ⟨hf1, _⟩ := form_true hbt
  have HF : Hid (r = ((a' + 1, b, c, d), 0)) := by show _ = _; rw [← hr, returnS, if_neg (by rw [hbase, hbase']; decide)]
  clear hr hbase hbase' hbt
  unfold I64 at *
  go_enter Try.func15, Try.ntmps15
  go_wp2_with fail
  with_reducible refine (CB.out _).mono ?_; rintro e w1 ⟨rfl, hb1⟩; obtain ⟨hcc1, hcf1⟩ := below_cells hb1; have hz1 : w.heap.size + 1 < w1.heap.size := (by have := hb1.size; simp at this; omega); have hy1 : w.heap.size < w1.heap.size := (by omega); have hv1 : w.heap.size + 2 < w1.heap.size := (by have := hb1.size; simp at this; omega); have c0 : w1.cell? ⟨w.heap.size, 0, none⟩ = some (.int .i64 a) := (by rw [hcc1 _ _ (by first | (simp; done) | (simp; omega) | omega)]; go_simp); have c1 : w1.cell? ⟨w.heap.size, 1, none⟩ = some (.int .i64 b) := (by rw [hcc1 _ _ (by first | (simp; done) | (simp; omega) | omega)]; go_simp); have c2 : w1.cell? ⟨w.heap.size, 2, none⟩ = some (.int .i64 c) := (by rw [hcc1 _ _ (by first | (simp; done) | (simp; omega) | omega)]; go_simp); have c3 : w1.cell? ⟨w.heap.size, 3, none⟩ = some (.int .i64 d) := (by rw [hcc1 _ _ (by first | (simp; done) | (simp; omega) | omega)]; go_simp); have t0 : w1.cell? ⟨w.heap.size + 1, 0, none⟩ = some (.int .i64 a') := (by rw [hcc1 _ _ (by first | (simp; done) | (simp; omega) | omega)]; go_simp); clear CB
  go_wp2_with fail
  with_reducible refine (CF.out _).mono ?_; rintro e w2 ⟨rfl, hb2⟩; obtain ⟨hcc2, hcf2⟩ := below_cells hb2; have hz2 : w1.heap.size ≤ w2.heap.size := (by have := hb2.size; first | omega | (simp at this; omega)); have hy2 : w.heap.size + 1 < w2.heap.size := (by omega); have hx2 : w.heap.size < w2.heap.size := (by omega); have d0 : w2.cell? ⟨w.heap.size, 0, none⟩ = some (.int .i64 a) := (by rw [hcc2 _ _ (by first | (simp; done) | (simp; omega) | omega)]; exact c0); have d1 : w2.cell? ⟨w.heap.size, 1, none⟩ = some (.int .i64 b) := (by rw [hcc2 _ _ (by first | (simp; done) | (simp; omega) | omega)]; exact c1); have d2 : w2.cell? ⟨w.heap.size, 2, none⟩ = some (.int .i64 c) := (by rw [hcc2 _ _ (by first | (simp; done) | (simp; omega) | omega)]; exact c2); have d3 : w2.cell? ⟨w.heap.size, 3, none⟩ = some (.int .i64 d) := (by rw [hcc2 _ _ (by first | (simp; done) | (simp; omega) | omega)]; exact c3); have t1 : w2.cell? ⟨w.heap.size + 1, 0, none⟩ = some (.int .i64 a') := (by rw [hcc2 _ _ (by first | (simp; done) | (simp; omega) | omega)]; exact t0)
  go_wp2_with fail
  have HB1 : Hid (Below w.heap.size w w1) := Below.trans (by (repeat (first | with_reducible exact Below.refl _ _ | with_reducible refine Below.setCell ?_ (by first | (simp; done) | (simp; omega) | omega) _ | with_reducible refine Below.alloc ?_ (by first | (simp; done) | (simp; omega) | omega) _ | with_reducible refine Below.drew ?_))) (hb1.mono (by simp; omega))
  have HB2 : Hid (Below w.heap.size w w2) := Below.trans (by (repeat (first | with_reducible exact Below.refl _ _ | with_reducible exact HB1.out | with_reducible refine Below.setCell ?_ (by first | (simp; done) | (simp; omega) | omega) _ | with_reducible refine Below.alloc ?_ (by first | (simp; done) | (simp; omega) | omega) _ | with_reducible refine Below.drew ?_))) (hb2.mono (by first | (simp; done) | (simp; omega) | omega))
  refine bodyPost_ret (v := .tuple #[.agg #[.int .i64 (a' + 1), .int .i64 b, .int .i64 c, .int .i64 d], .int .i64 0]) (by simp [results, Try.results15, go_sem, *]) rfl ?_
  rw [HF.out]
  exact ⟨rfl, by (repeat (first | with_reducible exact Below.refl _ _ | with_reducible exact HB1.out | with_reducible exact HB2.out | with_reducible refine Below.setCell ?_ (by first | (simp; done) | (simp; omega) | omega) _ | with_reducible refine Below.alloc ?_ (by first | (simp; done) | (simp; omega) | omega) _ | with_reducible refine Below.drew ?_))⟩

set_option maxHeartbeats 1000000 in
theorem refRet_any (a b c d a' b' c' d' : Int) (ha : I64 a) (hb : I64 b) (hc : I64 c) (hd : I64 d) (ha' : I64 a') (hb' : I64 b') (hc' : I64 c') (hd' : I64 d') (r : LE) (hr : returnS a b c d a' b' c' d' = r) (w : World) :
    Calls Try.prog 16 #[.agg #[.int .i64 a, .int .i64 b, .int .i64 c, .int .i64 d], .agg #[.int .i64 a', .int .i64 b', .int .i64 c', .int .i64 d']] w (LayRes r w) := by
  have CB := Lib.hid (may_any a b c d ha hb hc hd)
  have CF := Lib.hid (may_any a' b' c' d' ha' hb' hc' hd')
  cases hbase : baseB a b c d
  · rw [hbase] at CB
    have HF : Hid (r = ((0, 0, 0, 0), 4)) := by show _ = _; rw [← hr, returnS, if_pos (.inl hbase)]
    clear hr hbase CF
    unfold I64 at *
    go_enter Try.func16, Try.ntmps16
    go_wp2_with fail
    with_reducible refine (CB.out _).mono ?_; rintro e w1 ⟨rfl, hb1⟩; obtain ⟨hcc1, hcf1⟩ := below_cells hb1; have hz1 : w.heap.size + 1 < w1.heap.size := (by have := hb1.size; simp at this; omega); have hy1 : w.heap.size < w1.heap.size := (by omega); have hv1 : w.heap.size + 2 < w1.heap.size := (by have := hb1.size; simp at this; omega); have c0 : w1.cell? ⟨w.heap.size, 0, none⟩ = some (.int .i64 a) := (by rw [hcc1 _ _ (by first | (simp; done) | (simp; omega) | omega)]; go_simp); have c1 : w1.cell? ⟨w.heap.size, 1, none⟩ = some (.int .i64 b) := (by rw [hcc1 _ _ (by first | (simp; done) | (simp; omega) | omega)]; go_simp); have c2 : w1.cell? ⟨w.heap.size, 2, none⟩ = some (.int .i64 c) := (by rw [hcc1 _ _ (by first | (simp; done) | (simp; omega) | omega)]; go_simp); have c3 : w1.cell? ⟨w.heap.size, 3, none⟩ = some (.int .i64 d) := (by rw [hcc1 _ _ (by first | (simp; done) | (simp; omega) | omega)]; go_simp); have t0 : w1.cell? ⟨w.heap.size + 1, 0, none⟩ = some (.int .i64 a') := (by rw [hcc1 _ _ (by first | (simp; done) | (simp; omega) | omega)]; go_simp); clear CB
    go_wp2_with fail
    have HB1 : Hid (Below w.heap.size w w1) := Below.trans (by (repeat (first | with_reducible exact Below.refl _ _ | with_reducible refine Below.setCell ?_ (by first | (simp; done) | (simp; omega) | omega) _ | with_reducible refine Below.alloc ?_ (by first | (simp; done) | (simp; omega) | omega) _ | with_reducible refine Below.drew ?_))) (hb1.mono (by simp; omega))
    refine bodyPost_ret (v := .tuple #[.agg #[.int .i64 0, .int .i64 0, .int .i64 0, .int .i64 0], .int .i64 4]) (by simp [results, Try.results16, go_sem, *]) rfl ?_
    rw [HF.out]
    exact ⟨rfl, by (repeat (first | with_reducible exact Below.refl _ _ | with_reducible exact HB1.out | with_reducible refine Below.setCell ?_ (by first | (simp; done) | (simp; omega) | omega) _ | with_reducible refine Below.alloc ?_ (by first | (simp; done) | (simp; omega) | omega) _ | with_reducible refine Below.drew ?_))⟩
  rw [hbase] at CB
  cases hbase' : baseB a' b' c' d'
  · rw [hbase'] at CF
    have HF : Hid (r = ((0, 0, 0, 0), 4)) := by show _ = _; rw [← hr, returnS, if_pos (.inr hbase')]
    clear hr hbase hbase'
    unfold I64 at *
    go_enter Try.func16, Try.ntmps16
    go_wp2_with fail
    with_reducible refine (CB.out _).mono ?_; rintro e w1 ⟨rfl, hb1⟩; obtain ⟨hcc1, hcf1⟩ := below_cells hb1; have hz1 : w.heap.size + 1 < w1.heap.size := (by have := hb1.size; simp at this; omega); have hy1 : w.heap.size < w1.heap.size := (by omega); have hv1 : w.heap.size + 2 < w1.heap.size := (by have := hb1.size; simp at this; omega); have c0 : w1.cell? ⟨w.heap.size, 0, none⟩ = some (.int .i64 a) := (by rw [hcc1 _ _ (by first | (simp; done) | (simp; omega) | omega)]; go_simp); have c1 : w1.cell? ⟨w.heap.size, 1, none⟩ = some (.int .i64 b) := (by rw [hcc1 _ _ (by first | (simp; done) | (simp; omega) | omega)]; go_simp); have c2 : w1.cell? ⟨w.heap.size, 2, none⟩ = some (.int .i64 c) := (by rw [hcc1 _ _ (by first | (simp; done) | (simp; omega) | omega)]; go_simp); have c3 : w1.cell? ⟨w.heap.size, 3, none⟩ = some (.int .i64 d) := (by rw [hcc1 _ _ (by first | (simp; done) | (simp; omega) | omega)]; go_simp); have t0 : w1.cell? ⟨w.heap.size + 1, 0, none⟩ = some (.int .i64 a') := (by rw [hcc1 _ _ (by first | (simp; done) | (simp; omega) | omega)]; go_simp); clear CB
    go_wp2_with fail
    with_reducible refine (CF.out _).mono ?_; rintro e w2 ⟨rfl, hb2⟩; obtain ⟨hcc2, hcf2⟩ := below_cells hb2; have hz2 : w1.heap.size ≤ w2.heap.size := (by have := hb2.size; first | omega | (simp at this; omega)); have hy2 : w.heap.size + 1 < w2.heap.size := (by omega); have hx2 : w.heap.size < w2.heap.size := (by omega); have d0 : w2.cell? ⟨w.heap.size, 0, none⟩ = some (.int .i64 a) := (by rw [hcc2 _ _ (by first | (simp; done) | (simp; omega) | omega)]; exact c0); have d1 : w2.cell? ⟨w.heap.size, 1, none⟩ = some (.int .i64 b) := (by rw [hcc2 _ _ (by first | (simp; done) | (simp; omega) | omega)]; exact c1); have d2 : w2.cell? ⟨w.heap.size, 2, none⟩ = some (.int .i64 c) := (by rw [hcc2 _ _ (by first | (simp; done) | (simp; omega) | omega)]; exact c2); have d3 : w2.cell? ⟨w.heap.size, 3, none⟩ = some (.int .i64 d) := (by rw [hcc2 _ _ (by first | (simp; done) | (simp; omega) | omega)]; exact c3); have t1 : w2.cell? ⟨w.heap.size + 1, 0, none⟩ = some (.int .i64 a') := (by rw [hcc2 _ _ (by first | (simp; done) | (simp; omega) | omega)]; exact t0)
    go_wp2_with fail
    have HB1 : Hid (Below w.heap.size w w1) := Below.trans (by (repeat (first | with_reducible exact Below.refl _ _ | with_reducible refine Below.setCell ?_ (by first | (simp; done) | (simp; omega) | omega) _ | with_reducible refine Below.alloc ?_ (by first | (simp; done) | (simp; omega) | omega) _ | with_reducible refine Below.drew ?_))) (hb1.mono (by simp; omega))
    have HB2 : Hid (Below w.heap.size w w2) := Below.trans (by (repeat (first | with_reducible exact Below.refl _ _ | with_reducible exact HB1.out | with_reducible refine Below.setCell ?_ (by first | (simp; done) | (simp; omega) | omega) _ | with_reducible refine Below.alloc ?_ (by first | (simp; done) | (simp; omega) | omega) _ | with_reducible refine Below.drew ?_))) (hb2.mono (by first | (simp; done) | (simp; omega) | omega))
    refine bodyPost_ret (v := .tuple #[.agg #[.int .i64 0, .int .i64 0, .int .i64 0, .int .i64 0], .int .i64 4]) (by simp [results, Try.results16, go_sem, *]) rfl ?_
    rw [HF.out]
    exact ⟨rfl, by (repeat (first | with_reducible exact Below.refl _ _ | with_reducible exact HB1.out | with_reducible exact HB2.out | with_reducible refine Below.setCell ?_ (by first | (simp; done) | (simp; omega) | omega) _ | with_reducible refine Below.alloc ?_ (by first | (simp; done) | (simp; omega) | omega) _ | with_reducible refine Below.drew ?_))⟩
  rw [hbase'] at CF
  obtain ⟨hbt, hba⟩ := baseB_true hbase'
  obtain ⟨hf1, _⟩ := form_true hbt
  have HF : Hid (r = ((a' + 1, b, c, d), 0)) := by show _ = _; rw [← hr, returnS, if_neg (by rw [hbase, hbase']; decide)]
  clear hr hbase hbase' hbt
  unfold I64 at *
  go_enter Try.func16, Try.ntmps16
  go_wp2_with fail
  with_reducible refine (CB.out _).mono ?_; rintro e w1 ⟨rfl, hb1⟩; obtain ⟨hcc1, hcf1⟩ := below_cells hb1; have hz1 : w.heap.size + 1 < w1.heap.size := (by have := hb1.size; simp at this; omega); have hy1 : w.heap.size < w1.heap.size := (by omega); have hv1 : w.heap.size + 2 < w1.heap.size := (by have := hb1.size; simp at this; omega); have c0 : w1.cell? ⟨w.heap.size, 0, none⟩ = some (.int .i64 a) := (by rw [hcc1 _ _ (by first | (simp; done) | (simp; omega) | omega)]; go_simp); have c1 : w1.cell? ⟨w.heap.size, 1, none⟩ = some (.int .i64 b) := (by rw [hcc1 _ _ (by first | (simp; done) | (simp; omega) | omega)]; go_simp); have c2 : w1.cell? ⟨w.heap.size, 2, none⟩ = some (.int .i64 c) := (by rw [hcc1 _ _ (by first | (simp; done) | (simp; omega) | omega)]; go_simp); have c3 : w1.cell? ⟨w.heap.size, 3, none⟩ = some (.int .i64 d) := (by rw [hcc1 _ _ (by first | (simp; done) | (simp; omega) | omega)]; go_simp); have t0 : w1.cell? ⟨w.heap.size + 1, 0, none⟩ = some (.int .i64 a') := (by rw [hcc1 _ _ (by first | (simp; done) | (simp; omega) | omega)]; go_simp); clear CB
  go_wp2_with fail
  with_reducible refine (CF.out _).mono ?_; rintro e w2 ⟨rfl, hb2⟩; obtain ⟨hcc2, hcf2⟩ := below_cells hb2; have hz2 : w1.heap.size ≤ w2.heap.size := (by have := hb2.size; first | omega | (simp at this; omega)); have hy2 : w.heap.size + 1 < w2.heap.size := (by omega); have hx2 : w.heap.size < w2.heap.size := (by omega); have d0 : w2.cell? ⟨w.heap.size, 0, none⟩ = some (.int .i64 a) := (by rw [hcc2 _ _ (by first | (simp; done) | (simp; omega) | omega)]; exact c0); have d1 : w2.cell? ⟨w.heap.size, 1, none⟩ = some (.int .i64 b) := (by rw [hcc2 _ _ (by first | (simp; done) | (simp; omega) | omega)]; exact c1); have d2 : w2.cell? ⟨w.heap.size, 2, none⟩ = some (.int .i64 c) := (by rw [hcc2 _ _ (by first | (simp; done) | (simp; omega) | omega)]; exact c2); have d3 : w2.cell? ⟨w.heap.size, 3, none⟩ = some (.int .i64 d) := (by rw [hcc2 _ _ (by first | (simp; done) | (simp; omega) | omega)]; exact c3); have t1 : w2.cell? ⟨w.heap.size + 1, 0, none⟩ = some (.int .i64 a') := (by rw [hcc2 _ _ (by first | (simp; done) | (simp; omega) | omega)]; exact t0)
  go_wp2_with fail
  have HB1 : Hid (Below w.heap.size w w1) := Below.trans (by (repeat (first | with_reducible exact Below.refl _ _ | with_reducible refine Below.setCell ?_ (by first | (simp; done) | (simp; omega) | omega) _ | with_reducible refine Below.alloc ?_ (by first | (simp; done) | (simp; omega) | omega) _ | with_reducible refine Below.drew ?_))) (hb1.mono (by simp; omega))
  have HB2 : Hid (Below w.heap.size w w2) := Below.trans (by (repeat (first | with_reducible exact Below.refl _ _ | with_reducible exact HB1.out | with_reducible refine Below.setCell ?_ (by first | (simp; done) | (simp; omega) | omega) _ | with_reducible refine Below.alloc ?_ (by first | (simp; done) | (simp; omega) | omega) _ | with_reducible refine Below.drew ?_))) (hb2.mono (by first | (simp; done) | (simp; omega) | omega))
  refine bodyPost_ret (v := .tuple #[.agg #[.int .i64 (a' + 1), .int .i64 b, .int .i64 c, .int .i64 d], .int .i64 0]) (by simp [results, Try.results16, go_sem, *]) rfl ?_
  rw [HF.out]
  exact ⟨rfl, by (repeat (first | with_reducible exact Below.refl _ _ | with_reducible exact HB1.out | with_reducible exact HB2.out | with_reducible refine Below.setCell ?_ (by first | (simp; done) | (simp; omega) | omega) _ | with_reducible refine Below.alloc ?_ (by first | (simp; done) | (simp; omega) | omega) _ | with_reducible refine Below.drew ?_))⟩

end Go.Proofs.Ytmbelomekihdkaa
