/- superblock.returning, phase, Valid. -/
import Derived.Test.YthjnbdbbeidhgaaDoorSupEq
import Derived.Deep.DeepCutAuto
import Derived.Deep.RegionHeld3
import Derived.BigQuiet
namespace Go.Proofs.YthjnbdbbeidhgaaDoor
open Go.RowKit

def Ly.wf (l : Ly) : Bool := form l.a l.b l.c l.d
def retB (T H : Ly) (fs : List Ly) : Bool := match fs with
  | [x, F] => decide (x = H) && F.wf && decide (¬ H.a = F.a ∧ ¬ H.a = T.a ∧ ¬ F.a = T.a ∧ T.b = H.b ∧ T.c = H.c ∧ T.d = H.d)
  | _ => false
def phaseB (p m : Int) (T H : Ly) (fs : List Ly) : Bool :=
  if p = 1 then decide (H = ⟨0, 0, 0, 0⟩ ∧ fs = [])
  else if p = 2 then decide (0 < m ∧ H.wf = true ∧ fs = [H] ∧ ¬ T.a = H.a)
  else if p = 3 then decide (0 < m ∧ H.wf = true) && retB T H fs
  else false
def svalid (s : Su) : Bool := decide (1 ≤ s.g ∧ s.g ≤ 1099511627775 ∧ 0 ≤ s.m ∧ s.m ≤ 4294967295 ∧ 0 ≤ s.t ∧ s.t ≤ 281474976710655 ∧ 0 ≤ s.n ∧ s.n ≤ 549755813888 ∧ s.T.wf = true) && phaseB s.p s.m s.T s.H s.fs

theorem addr_four (a : Addr) : a.add 4 = ⟨a.block, a.off + 4, none⟩ := by unfold Addr.add; rw [if_neg (by decide)]
theorem addr_zero (a : Addr) : a.add 0 = a := by unfold Addr.add; rw [if_pos rfl]
theorem LAt.one {w : World} {B n : Nat} {A : Option Addr} {x : Ly} {fs : List Ly} (h : LAt w B A n (x :: fs)) : ∃ ad, A = some ad ∧ ad.block < B ∧ w.cell? ad = some (.int .i64 x.a) ∧ w.cell? ⟨ad.block, ad.off + 1, none⟩ = some (.int .i64 x.b) ∧ w.cell? ⟨ad.block, ad.off + 2, none⟩ = some (.int .i64 x.c) ∧ w.cell? ⟨ad.block, ad.off + 3, none⟩ = some (.int .i64 x.d) := by
  obtain ⟨ad, e, hb, h0, h1, h2, h3⟩ := h.2 0 x rfl
  rw [show (0 : Nat) * 4 = 0 from rfl, addr_zero] at h0 h1 h2 h3
  exact ⟨ad, e, hb, h0, h1, h2, h3⟩
theorem LAt.two {w : World} {B n : Nat} {A : Option Addr} {x y : Ly} {fs : List Ly} (h : LAt w B A n (x :: y :: fs)) : ∃ ad, A = some ad ∧ ad.block < B ∧ w.cell? ad = some (.int .i64 x.a) ∧ w.cell? ⟨ad.block, ad.off + 1, none⟩ = some (.int .i64 x.b) ∧ w.cell? ⟨ad.block, ad.off + 2, none⟩ = some (.int .i64 x.c) ∧ w.cell? ⟨ad.block, ad.off + 3, none⟩ = some (.int .i64 x.d) ∧
    w.cell? ⟨ad.block, ad.off + 4, none⟩ = some (.int .i64 y.a) ∧ w.cell? ⟨ad.block, ad.off + 5, none⟩ = some (.int .i64 y.b) ∧ w.cell? ⟨ad.block, ad.off + 6, none⟩ = some (.int .i64 y.c) ∧ w.cell? ⟨ad.block, ad.off + 7, none⟩ = some (.int .i64 y.d) := by
  obtain ⟨ad, e, hb, h0, h1, h2, h3⟩ := h.one
  obtain ⟨ad', e', _, i0, i1, i2, i3⟩ := h.2 1 y rfl
  rw [e] at e'
  injection e' with e'
  subst e'
  rw [show (1 : Nat) * 4 = 4 from rfl, addr_four] at i0 i1 i2 i3
  exact ⟨ad, e, hb, h0, h1, h2, h3, i0, i1, i2, i3⟩
theorem LAt.lit (w : World) (ty : TypeId) (l : Ly) : LAt (w.alloc (.cells #[.int .i64 l.a, .int .i64 l.b, .int .i64 l.c, .int .i64 l.d] ty)) (w.heap.size + 1) (some ⟨w.heap.size, 0, none⟩) 1 [l] := ⟨rfl, fun j x hj => by
  match j, hj with
  | 0, hj =>
    injection hj with hj
    subst hj
    have hc : ∀ (j : Nat) (v : Value), (#[.int .i64 l.a, .int .i64 l.b, .int .i64 l.c, .int .i64 l.d] : Array Value)[j]? = some v → (w.alloc (.cells #[.int .i64 l.a, .int .i64 l.b, .int .i64 l.c, .int .i64 l.d] ty)).cell? ⟨w.heap.size, j, none⟩ = some v := fun j v hv => (cell_of_row _ _ j _ ty _ (heap_alloc_new w _)).trans hv
    refine ⟨⟨w.heap.size, 0, none⟩, rfl, by simp, ?_, ?_, ?_, ?_⟩
    · rw [show (0 : Nat) * 4 = 0 from rfl, addr_zero]; exact hc 0 _ rfl
    · rw [show (0 : Nat) * 4 = 0 from rfl, addr_zero]; exact hc 1 _ rfl
    · rw [show (0 : Nat) * 4 = 0 from rfl, addr_zero]; exact hc 2 _ rfl
    · rw [show (0 : Nat) * 4 = 0 from rfl, addr_zero]; exact hc 3 _ rfl⟩

theorem below_ret {B : Nat} {a w : World} (h : Below B a w) (hB : B ≤ w.heap.size) (q : Nat) (o : Obj) : Below B a ((w.drewN q).alloc o) := (below_drewN h q).alloc hB _
theorem below_put {a w : World} (h : Below a.heap.size a w) (o : Obj) (j : Nat) (u : Value) : Below a.heap.size a ((w.alloc o).setCell ⟨w.heap.size, j, none⟩ u) := (h.alloc h.size _).setCell h.size _

set_option maxRecDepth 100000 in
set_option maxHeartbeats 4000000 in
theorem returning_any (g p m t n a1 b1 c1 d1 a2 b2 c2 d2 : Int) (fs : List Ly) (A : Option Addr) (k c B : Nat) (w : World) (hx : LAt w B A k fs) (hk : k ≤ 9223372036854775807) (hB : B ≤ w.heap.size) (hok : ∀ l ∈ fs, l.ok) (r : Bool) (hr : retB ⟨a1, b1, c1, d1⟩ ⟨a2, b2, c2, d2⟩ fs = r) :
    Calls Tryd.prog 62 #[.agg #[.int .i64 g, .int .i64 p, .int .i64 m, .int .i64 t, .int .i64 n, .int .i64 a1, .int .i64 b1, .int .i64 c1, .int .i64 d1, .int .i64 a2, .int .i64 b2, .int .i64 c2, .int .i64 d2, .slice A k c]] w fun e w' => e = .returned (.bool r) ∧ Below w.heap.size w w' := by
  have HB0 : Hid (Below w.heap.size w (w.alloc (.cells #[.int .i64 g, .int .i64 p, .int .i64 m, .int .i64 t, .int .i64 n, .int .i64 a1, .int .i64 b1, .int .i64 c1, .int .i64 d1, .int .i64 a2, .int .i64 b2, .int .i64 c2, .int .i64 d2, .slice A k c] 41))) := (Below.refl _ _).alloc (Nat.le_refl _) _
  have HX0 := Lib.hid (Cells.new w 41 #[.int .i64 g, .int .i64 p, .int .i64 m, .int .i64 t, .int .i64 n, .int .i64 a1, .int .i64 b1, .int .i64 c1, .int .i64 d1, .int .i64 a2, .int .i64 b2, .int .i64 c2, .int .i64 d2, .slice A k c])
  have HL : Hid (∀ w', Below w.heap.size w w' → LAt w' w.heap.size A k fs) := fun w' hb => (hx.more hB).below hb
  have HKL : Hid (fs.length = k) := hx.1
  by_cases h2 : k = 2
  rotate_left
  · obtain rfl : r = false := by
      rw [← hr]
      have hl := HKL.out
      match fs, hl with
      | [], _ => rfl
      | [_], _ => rfl
      | [_, _], h => exact absurd h.symm h2
      | _ :: _ :: _ :: _, _ => rfl
    have hne : ((k : Int) != 2) = true := by simp only [bne_iff_ne, ne_eq]; omega
    clear hr hx hok h2
    go_enter Tryd.func62, Tryd.ntmps62
    go_wp2
    go_quiet (fail)
    go_wp2
    go_ret
    exact ⟨rfl, below_drewN HB0.out _⟩
  subst h2
  obtain ⟨⟨a3, b3, c3, d3⟩, ⟨a4, b4, c4, d4⟩, rfl⟩ : ∃ x y, fs = [x, y] := by
    have hl := HKL.out
    match fs, hl with
    | [x, y], _ => exact ⟨x, y, rfl⟩
  obtain ⟨o1, o2, o3, o4⟩ := hok ⟨a4, b4, c4, d4⟩ (by simp)
  have FO := Lib.hid (fun w => form_any a4 b4 c4 d4 o1 o2 o3 o4 w)
  unfold retB at hr
  have HR := Lib.hid hr
  obtain ⟨ad, rfl, hadB, m0, m1, m2, m3, m4, m5, m6, m7⟩ := (HL.out _ HB0.out).two
  have HAD := Lib.hid hadB
  clear hr hx hok o1 o2 o3 o4 hadB
  go_enter Tryd.func62, Tryd.ntmps62
  go_upto_region 1 with fail
  go_cut [27] (fun v wx => v = .bool (!(decide ((⟨a3, b3, c3, d3⟩ : Ly) = ⟨a2, b2, c2, d2⟩) && form a4 b4 c4 d4)) ∧ Below (w.heap.size + 1) (w.alloc (.cells #[.int .i64 g, .int .i64 p, .int .i64 m, .int .i64 t, .int .i64 n, .int .i64 a1, .int .i64 b1, .int .i64 c1, .int .i64 d1, .int .i64 a2, .int .i64 b2, .int .i64 c2, .int .i64 d2, .slice (some ad) 2 c] 41)) wx)
  case first =>
    by_cases hxy : a2 = a3 ∧ b2 = b3 ∧ c2 = c3 ∧ d2 = d3
    rotate_left
    · have HF : Hid (decide ((⟨a3, b3, c3, d3⟩ : Ly) = ⟨a2, b2, c2, d2⟩) = false) := decide_eq_false fun h => hxy (by injection h with e1 e2 e3 e4; exact ⟨e1.symm, e2.symm, e3.symm, e4.symm⟩)
      rcases ne_first hxy with hne | ⟨rfl, hne⟩ | ⟨rfl, rfl, hne⟩ | ⟨rfl, rfl, rfl, hne⟩
      all_goals
        have hne2 := mt Eq.symm hne
        clear hxy
        go_quiet (fail)
        (try go_wp2_with fail)
        (try go_simp)
        go_meet
        exact ⟨by rw [HF.out]; rfl, below_drewN (Below.refl _ _) _⟩
    obtain ⟨rfl, rfl, rfl, rfl⟩ := hxy
    obtain ⟨fo, hfo⟩ : ∃ fo, form a4 b4 c4 d4 = fo := ⟨_, rfl⟩
    rw [hfo] at FO
    have HFO := Lib.hid hfo
    clear hfo
    go_region_with (go_at_call 26; refine (FO.out _).mono ?_; rintro e w2 ⟨rfl, hbel⟩; have HB2 := Lib.hid ((Below.drew (Below.refl (w.heap.size + 1) (w.alloc (.cells #[.int .i64 g, .int .i64 p, .int .i64 m, .int .i64 t, .int .i64 n, .int .i64 a1, .int .i64 b1, .int .i64 c1, .int .i64 d1, .int .i64 a2, .int .i64 b2, .int .i64 c2, .int .i64 d2, .slice (some ad) 2 c] 41)))).trans (hbel.mono (by simp))); clear hbel)
    all_goals
      go_wp2_with fail
      (try go_simp)
      go_meet
      exact ⟨by rw [HFO.out]; first | (rw [decide_eq_true rfl]; cases fo <;> rfl) | (cases fo <;> simp), HB2.out⟩
  case rest =>
    obtain ⟨rfl, hbel⟩ := hcut
    have HB2 := Lib.hid (HB0.out.trans (hbel.mono (by omega)))
    have HX2 := Lib.hid (HX0.out.below hbel (by omega))
    clear hbel m0 m1 m2 m3 m4 m5 m6 m7
    obtain ⟨wA, hwA⟩ : ∃ x, x = wc := ⟨_, rfl⟩
    subst hwA
    obtain ⟨ad', e', _, m0, m1, m2, m3, m4, m5, m6, m7⟩ := (HL.out _ HB2.out).two
    injection e' with e'
    subst e'
    obtain ⟨u, hu⟩ : ∃ u, (decide ((⟨a3, b3, c3, d3⟩ : Ly) = ⟨a2, b2, c2, d2⟩) && form a4 b4 c4 d4) = u := ⟨_, rfl⟩
    have hr := HR.out
    rw [hu]
    replace hr : (u && decide (¬ a2 = a4 ∧ ¬ a2 = a1 ∧ ¬ a4 = a1 ∧ b1 = b2 ∧ c1 = c2 ∧ d1 = d2)) = r := by rw [← hu]; exact hr
    clear hu HR
    cases u
    · obtain rfl : r = false := by rw [← hr]; rfl
      go_wp2_with fail
      go_ret
      exact ⟨rfl, HB2.out⟩
    · have l0 := HX2.out 0 _ rfl
      have l1 := HX2.out 1 _ rfl
      have l2 := HX2.out 2 _ rfl
      have l3 := HX2.out 3 _ rfl
      have l4 := HX2.out 4 _ rfl
      have l5 := HX2.out 5 _ rfl
      have l6 := HX2.out 6 _ rfl
      have l7 := HX2.out 7 _ rfl
      have l8 := HX2.out 8 _ rfl
      have l9 := HX2.out 9 _ rfl
      have l10 := HX2.out 10 _ rfl
      have l11 := HX2.out 11 _ rfl
      have l12 := HX2.out 12 _ rfl
      have l13 := HX2.out 13 _ rfl
      go_upto_region 3 with fail
      go_cut [3, 4, 5] (fun x y z wx => x = .int .i64 a2 ∧ y = .int .i64 a4 ∧ z = .int .i64 a1 ∧ Below wA.heap.size wA wx)
      case first =>
        go_quiet (fail)
        (try go_wp2_with fail)
        (try go_simp)
        go_meet
        exact ⟨rfl, rfl, rfl, below_drewN (Below.refl _ _) _⟩
      clear l0 l1 l2 l3 l4 l5 l6 l7 l8 l9 l10 l11 l12 l13 m0 m1 m2 m3 m4 m5 m6 m7
      obtain ⟨rfl, rfl, rfl, hbel⟩ := hcut
      have HB3 := Lib.hid (HB2.out.trans (hbel.mono HB2.out.size))
      have HX3 := Lib.hid (HX2.out.below hbel HX2.out.lt)
      clear hbel
      obtain ⟨wB, hwB⟩ : ∃ x, x = wc := ⟨_, rfl⟩
      subst hwB
      have hwlt := HX3.out.lt
      have l5 := HX3.out 5 _ rfl
      have l6 := HX3.out 6 _ rfl
      have l7 := HX3.out 7 _ rfl
      have l8 := HX3.out 8 _ rfl
      have l9 := HX3.out 9 _ rfl
      have l10 := HX3.out 10 _ rfl
      have l11 := HX3.out 11 _ rfl
      have l12 := HX3.out 12 _ rfl
      by_cases q0 : a2 = a4
      · obtain rfl : r = false := by rw [← hr]; simp only [Bool.true_and, decide_eq_false_iff_not]; omega
        clear hr
        subst q0
        go_wp2_with fail
        go_ret
        exact ⟨rfl, by first | with_reducible exact HB3.out.alloc HB3.out.size _ | exact below_put HB3.out _ _ _⟩
      by_cases q1 : a2 = a1
      · obtain rfl : r = false := by rw [← hr]; simp only [Bool.true_and, decide_eq_false_iff_not]; omega
        clear hr
        subst q1
        go_wp2_with fail
        go_ret
        exact ⟨rfl, by first | with_reducible exact HB3.out.alloc HB3.out.size _ | exact below_put HB3.out _ _ _⟩
      by_cases q2 : a4 = a1
      · obtain rfl : r = false := by rw [← hr]; simp only [Bool.true_and, decide_eq_false_iff_not]; omega
        clear hr
        subst q2
        go_wp2_with fail
        go_ret
        exact ⟨rfl, by first | with_reducible exact HB3.out.alloc HB3.out.size _ | exact below_put HB3.out _ _ _⟩
      by_cases q3 : ¬ b1 = b2
      · obtain rfl : r = false := by rw [← hr]; simp only [Bool.true_and, decide_eq_false_iff_not]; omega
        clear hr
        have q9 := mt Eq.symm q3
        go_wp2_with fail
        go_ret
        exact ⟨rfl, by first | with_reducible exact HB3.out.alloc HB3.out.size _ | exact below_put HB3.out _ _ _⟩
      by_cases q4 : ¬ c1 = c2
      · obtain rfl : r = false := by rw [← hr]; simp only [Bool.true_and, decide_eq_false_iff_not]; omega
        clear hr
        have q9 := mt Eq.symm q4
        obtain rfl : b1 = b2 := by omega
        go_wp2_with fail
        go_ret
        exact ⟨rfl, by first | with_reducible exact HB3.out.alloc HB3.out.size _ | exact below_put HB3.out _ _ _⟩
      by_cases q5 : ¬ d1 = d2
      · obtain rfl : r = false := by rw [← hr]; simp only [Bool.true_and, decide_eq_false_iff_not]; omega
        clear hr
        have q9 := mt Eq.symm q5
        obtain rfl : b1 = b2 := by omega
        obtain rfl : c1 = c2 := by omega
        go_wp2_with fail
        go_ret
        exact ⟨rfl, by first | with_reducible exact HB3.out.alloc HB3.out.size _ | exact below_put HB3.out _ _ _⟩
      obtain rfl : r = true := by rw [← hr]; simp only [Bool.true_and, decide_eq_true_eq]; omega
      clear hr
      obtain rfl : b1 = b2 := by omega
      obtain rfl : c1 = c2 := by omega
      obtain rfl : d1 = d2 := by omega
      go_wp2_with fail
      go_ret
      exact ⟨by first | rfl | (exact congrArg (fun b => Ending.returned (.bool b)) (by simp [q0, q1, q2])) | (simp [q0, q1, q2]; done) | (trace_state; sorry), by first | with_reducible exact HB3.out.alloc HB3.out.size _ | exact below_put HB3.out _ _ _⟩
end Go.Proofs.YthjnbdbbeidhgaaDoor
