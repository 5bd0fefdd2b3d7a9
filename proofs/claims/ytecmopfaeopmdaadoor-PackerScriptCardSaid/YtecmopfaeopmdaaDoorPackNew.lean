/- packer.New where it has an error; the reference's May; Bytes; Put of two packers. -/
import Derived.Test.YtecmopfaeopmdaaDoorPackRefTk
namespace Go.Proofs.YtecmopfaeopmdaaDoor
open Go.RowKit Go.Sort

theorem pmay_cases (a b c d sl sq : Int) : (form a b c d = false ∧ pmay a b c d sl sq = 4) ∨ (form a b c d = true ∧ sl < 0 ∧ pmay a b c d sl sq = 2) ∨ (form a b c d = true ∧ 0 ≤ sl ∧ d ≤ sl ∧ pmay a b c d sl sq = 2) ∨
    (form a b c d = true ∧ 0 ≤ sl ∧ sl < d ∧ sq < 1 ∧ pmay a b c d sl sq = 2) ∨ (form a b c d = true ∧ 0 ≤ sl ∧ sl < d ∧ 1 ≤ sq ∧ 281474976710655 < sq ∧ pmay a b c d sl sq = 2) ∨ (form a b c d = true ∧ 0 ≤ sl ∧ sl < d ∧ 1 ≤ sq ∧ sq ≤ 281474976710655 ∧ pmay a b c d sl sq = 0) := by
  unfold pmay
  cases hf : form a b c d
  · exact .inl ⟨rfl, by simp⟩
  · rw [if_pos rfl]
    right
    by_cases h1 : sl < 0
    · exact .inl ⟨rfl, h1, by rw [if_pos (.inl h1)]⟩
    right
    by_cases h2 : d ≤ sl
    · exact .inl ⟨rfl, by omega, h2, by rw [if_pos (.inr (.inl h2))]⟩
    right
    by_cases h3 : sq < 1
    · exact .inl ⟨rfl, by omega, by omega, h3, by rw [if_pos (.inr (.inr (.inl h3)))]⟩
    right
    by_cases h4 : 281474976710655 < sq
    · exact .inl ⟨rfl, by omega, by omega, by omega, h4, by rw [if_pos (.inr (.inr (.inr h4)))]⟩
    right
    exact ⟨rfl, by omega, by omega, by omega, by omega, by rw [if_neg (by omega)]⟩

set_option maxHeartbeats 2000000 in
theorem refMay_any (a b c d sl sq : Int) (ha : I64 a) (hb : I64 b) (hc : I64 c) (hd : I64 d) (r : Int) (hr : pmay a b c d sl sq = r) (w : World) :
    Calls Tryd.prog 20 #[.agg #[.int .i64 a, .int .i64 b, .int .i64 c, .int .i64 d], .int .i64 sl, .int .i64 sq] w fun e w' => e = .returned (.int .i64 r) ∧ Below w.heap.size w w' := by
  have RF := Lib.hid (refForm_any a b c d ha hb hc hd)
  have HB0 : Hid (Below w.heap.size w (w.alloc (.cells #[.int .i64 a, .int .i64 b, .int .i64 c, .int .i64 d] 23))) := (Below.refl _ _).alloc (Nat.le_refl _) _
  have HX0 := Lib.hid (Cells.new w 23 #[.int .i64 a, .int .i64 b, .int .i64 c, .int .i64 d])
  have hcs := pmay_cases a b c d sl sq
  rw [hr] at hcs
  clear hr ha hb hc hd
  rcases hcs with ⟨hf, rfl⟩ | ⟨hf, h1, rfl⟩ | ⟨hf, h1, h2, rfl⟩ | ⟨hf, h1, h2, h3, rfl⟩ | ⟨hf, h1, h2, h3, h4, rfl⟩ | ⟨hf, h1, h2, h3, h4, rfl⟩
  all_goals
    rw [hf] at RF
    clear hf
    go_enter Tryd.func20, Tryd.ntmps20
    go_wp2_with (go_at_call 8; refine (RF.out _).mono ?_; rintro e w1 ⟨rfl, hbel⟩; have HB1 : Hid (Below w.heap.size w w1) := HB0.out.trans (hbel.mono HB0.out.size); have HX1 := Lib.hid (HX0.out.below hbel (by simp)); have l3 := HX1.out 3 _ rfl; clear hbel)
    go_ret
    exact ⟨rfl, HB1.out⟩

set_option maxHeartbeats 2000000 in
theorem first_not (a b c d sl : Int) (ha : I64 a) (hb : I64 b) (hc : I64 c) (hd : I64 d) (hf : form a b c d = true) (hs : sl < 0 ∨ (0 ≤ sl ∧ d ≤ sl)) (w : World) :
    Calls Tryd.prog 31 #[.agg #[.int .i64 a, .int .i64 b, .int .i64 c, .int .i64 d], .int .i64 sl] w fun e w' => e = .returned (.int .i64 (-1)) ∧ Below w.heap.size w w' := by
  have C := Lib.hid (form_any a b c d ha hb hc hd)
  rw [hf] at C
  have HB0 : Hid (Below w.heap.size w (w.alloc (.cells #[.int .i64 a, .int .i64 b, .int .i64 c, .int .i64 d] 23))) := (Below.refl _ _).alloc (Nat.le_refl _) _
  have HX0 := Lib.hid (Cells.new w 23 #[.int .i64 a, .int .i64 b, .int .i64 c, .int .i64 d])
  clear hf ha hb hc hd
  rcases hs with h1 | ⟨h1, h2⟩
  all_goals
    go_enter Tryd.func31, Tryd.ntmps31
    go_wp2_with (go_at_call 30; refine (C.out _).mono ?_; rintro e w1 ⟨rfl, hbel⟩; have HB1 : Hid (Below w.heap.size w w1) := HB0.out.trans (hbel.mono HB0.out.size); have HX1 := Lib.hid (HX0.out.below hbel (by simp)); have l3 := HX1.out 3 _ rfl; clear hbel)
    go_ret
    exact ⟨rfl, HB1.out⟩

set_option maxHeartbeats 4000000 in
theorem pnew_not (a b c d sl sq : Int) (ha : I64 a) (hb : I64 b) (hc : I64 c) (hd : I64 d) (r : Int) (hr : pmay a b c d sl sq = r) (hr0 : ¬ r = 0) (w : World) :
    Calls Tryd.prog 10 #[.agg #[.int .i64 a, .int .i64 b, .int .i64 c, .int .i64 d], .int .i64 sl, .int .i64 sq] w fun e w' => e = .returned (.tuple #[.pointer none, .int .i64 r]) ∧ Below w.heap.size w w' := by
  have HB0 : Hid (Below w.heap.size w (w.alloc (.cells #[.int .i64 a, .int .i64 b, .int .i64 c, .int .i64 d] 23))) := (Below.refl _ _).alloc (Nat.le_refl _) _
  have HX0 := Lib.hid (Cells.new w 23 #[.int .i64 a, .int .i64 b, .int .i64 c, .int .i64 d])
  have hcs := pmay_cases a b c d sl sq
  rw [hr] at hcs
  have FM : Hid (∀ w, Calls Tryd.prog 30 #[.agg #[.int .i64 a, .int .i64 b, .int .i64 c, .int .i64 d]] w fun e w' => e = .returned (.bool (form a b c d)) ∧ Below w.heap.size w w') := form_any a b c d ha hb hc hd
  have FN : Hid (form a b c d = true → (sl < 0 ∨ (0 ≤ sl ∧ d ≤ sl)) → ∀ w, Calls Tryd.prog 31 #[.agg #[.int .i64 a, .int .i64 b, .int .i64 c, .int .i64 d], .int .i64 sl] w fun e w' => e = .returned (.int .i64 (-1)) ∧ Below w.heap.size w w') := fun h h2 w => first_not a b c d sl ha hb hc hd h h2 w
  have FY : Hid (form a b c d = true → 0 ≤ sl → sl < d → ∃ q, 74 ≤ q ∧ q ≤ 40000 ∧ ∀ w, Calls Tryd.prog 31 #[.agg #[.int .i64 a, .int .i64 b, .int .i64 c, .int .i64 d], .int .i64 sl] w fun e w' => e = .returned (.int .i64 q) ∧ Below w.heap.size w w') := fun h h0 h2 => by
    obtain ⟨_, _, _, c1, c2, _, d1, d2⟩ := form_true h
    obtain ⟨s, rfl⟩ : ∃ s : Nat, sl = s := ⟨sl.toNat, by omega⟩
    have m1 : 0 ≤ (s : Int) * c := Int.mul_nonneg (by omega) (by omega)
    have m2 : (s : Int) * c ≤ 15 * 2048 := Int.mul_le_mul (by omega) c2 (by omega) (by omega)
    exact ⟨74 + s * c, by omega, by omega, fun w => first_any a b c d s ha hb hc hd h h2 w⟩
  clear hr ha hb hc hd
  rcases hcs with ⟨hf, rfl⟩ | ⟨hf, h1, rfl⟩ | ⟨hf, h1, h2, rfl⟩ | ⟨hf, h1, h2, h3, rfl⟩ | ⟨hf, h1, h2, h3, h4, rfl⟩ | ⟨_, _, _, _, _, rfl⟩
  · rw [hf] at FM
    clear FN FY hf
    go_enter Tryd.func10, Tryd.ntmps10
    go_wp2_with (go_at_call 30; refine (FM.out _).mono ?_; rintro e w1 ⟨rfl, hbel⟩; have HB1 : Hid (Below w.heap.size w w1) := HB0.out.trans (hbel.mono HB0.out.size); clear hbel)
    go_ret2
    exact ⟨rfl, HB1.out⟩
  · have F1 := Lib.hid (FN.out hf (.inl h1))
    rw [hf] at FM
    clear FN FY hf
    go_enter Tryd.func10, Tryd.ntmps10
    go_wp2_with (first
      | (go_at_call 30; refine (FM.out _).mono ?_; rintro e w1 ⟨rfl, hbel⟩; have HB1 : Hid (Below w.heap.size w w1) := HB0.out.trans (hbel.mono HB0.out.size); have HX1 := Lib.hid (HX0.out.below hbel (by simp)); have l0 := HX1.out 0 _ rfl; have l1 := HX1.out 1 _ rfl; have l2 := HX1.out 2 _ rfl; have l3 := HX1.out 3 _ rfl; clear hbel)
      | (go_at_call 31; refine (F1.out _).mono ?_; rintro e w2 ⟨rfl, hbel⟩; have HB2 : Hid (Below w.heap.size w w2) := HB1.out.trans (hbel.mono HB1.out.size); clear hbel))
    go_ret2
    exact ⟨rfl, HB2.out⟩
  · have F1 := Lib.hid (FN.out hf (.inr ⟨h1, h2⟩))
    rw [hf] at FM
    clear FN FY hf
    go_enter Tryd.func10, Tryd.ntmps10
    go_wp2_with (first
      | (go_at_call 30; refine (FM.out _).mono ?_; rintro e w1 ⟨rfl, hbel⟩; have HB1 : Hid (Below w.heap.size w w1) := HB0.out.trans (hbel.mono HB0.out.size); have HX1 := Lib.hid (HX0.out.below hbel (by simp)); have l0 := HX1.out 0 _ rfl; have l1 := HX1.out 1 _ rfl; have l2 := HX1.out 2 _ rfl; have l3 := HX1.out 3 _ rfl; clear hbel)
      | (go_at_call 31; refine (F1.out _).mono ?_; rintro e w2 ⟨rfl, hbel⟩; have HB2 : Hid (Below w.heap.size w w2) := HB1.out.trans (hbel.mono HB1.out.size); clear hbel))
    go_ret2
    exact ⟨rfl, HB2.out⟩
  · obtain ⟨q, q1, q2, hF⟩ := FY.out hf h1 h2
    have F1 := Lib.hid hF
    rw [hf] at FM
    clear FN FY hf hF
    go_enter Tryd.func10, Tryd.ntmps10
    go_wp2_with (first
      | (go_at_call 30; refine (FM.out _).mono ?_; rintro e w1 ⟨rfl, hbel⟩; have HB1 : Hid (Below w.heap.size w w1) := HB0.out.trans (hbel.mono HB0.out.size); have HX1 := Lib.hid (HX0.out.below hbel (by simp)); have l0 := HX1.out 0 _ rfl; have l1 := HX1.out 1 _ rfl; have l2 := HX1.out 2 _ rfl; have l3 := HX1.out 3 _ rfl; clear hbel)
      | (go_at_call 31; refine (F1.out _).mono ?_; rintro e w2 ⟨rfl, hbel⟩; have HB2 : Hid (Below w.heap.size w w2) := HB1.out.trans (hbel.mono HB1.out.size); clear hbel))
    go_ret2
    exact ⟨rfl, HB2.out⟩
  · obtain ⟨q, q1, q2, hF⟩ := FY.out hf h1 h2
    have F1 := Lib.hid hF
    rw [hf] at FM
    clear FN FY hf hF
    go_enter Tryd.func10, Tryd.ntmps10
    go_wp2_with (first
      | (go_at_call 30; refine (FM.out _).mono ?_; rintro e w1 ⟨rfl, hbel⟩; have HB1 : Hid (Below w.heap.size w w1) := HB0.out.trans (hbel.mono HB0.out.size); have HX1 := Lib.hid (HX0.out.below hbel (by simp)); have l0 := HX1.out 0 _ rfl; have l1 := HX1.out 1 _ rfl; have l2 := HX1.out 2 _ rfl; have l3 := HX1.out 3 _ rfl; clear hbel)
      | (go_at_call 31; refine (F1.out _).mono ?_; rintro e w2 ⟨rfl, hbel⟩; have HB2 : Hid (Below w.heap.size w w2) := HB1.out.trans (hbel.mono HB1.out.size); clear hbel))
    go_ret2
    exact ⟨rfl, HB2.out⟩
  · exact absurd rfl hr0

/-- Put, of any packers with this stream: what it returns, and what the stream is then. -/
theorem put_same (cp : Int) (n : Nat) (bs : List UInt8) (r : List UInt8 × Int) (hn : (n : Int) ≤ cp) : ∃ (x y z : Int) (m : Nat) (bs1 : List UInt8), n ≤ m ∧ (m : Int) ≤ cp ∧ (∃ u, bs1 = bs ++ u) ∧
    ∀ (a b c d f s : Int) (p : Nat) (tk : Int) (A : Option Addr) (cap : Nat) (w : World) (e : Ending) (w' : World), Pk w p a b c d f s A n cap tk bs → PPut p a b c d f s tk cp A n cap bs r w e w' → e = .returned (.tuple #[.int .i64 x, .int .i64 y, .int .i64 z]) ∧ ∃ A1 c1, Pk w' p a b c d f s A1 m c1 tk bs1 ∧ Far w w' p (Value.slice A n cap).ownBlock ∧ Born w (Value.slice A n cap).ownBlock (Value.slice A1 m c1).ownBlock := by
  by_cases hz : r.2 = 0
  · by_cases hfit : cp - n < r.1.length
    · refine ⟨0, 0, 8, n, bs, Nat.le_refl _, hn, ⟨[], by simp⟩, fun a b c d f s p tk A cap w e w' hpk h => ?_⟩
      obtain ⟨h1, h2⟩ := pput_full hz hfit h
      exact ⟨h1, A, cap, hpk.below h2, Far.of_below h2 _ _, Born.refl _ _⟩
    · refine ⟨n, r.1.length, 0, n + r.1.length, bs ++ r.1, by omega, by omega, ⟨_, rfl⟩, fun a b c d f s p tk A cap w e w' hpk h => ?_⟩
      obtain ⟨h1, A1, c1, h2, h3, h4⟩ := pput_good hz hfit h
      exact ⟨h1, A1, c1, h2, h3, h4⟩
  · refine ⟨0, 0, r.2, n, bs, Nat.le_refl _, hn, ⟨[], by simp⟩, fun a b c d f s p tk A cap w e w' hpk h => ?_⟩
    obtain ⟨h1, h2⟩ := pput_bad hz h
    exact ⟨h1, A, cap, hpk.below h2, Far.of_below h2 _ _, Born.refl _ _⟩
end Go.Proofs.YtecmopfaeopmdaaDoor
