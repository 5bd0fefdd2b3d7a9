/- The walks of bytes.Clone, wire.Put, the reference's Put, Eq and Num. -/
import Derived.Test.YthgpmnblkhehkaaDoorRows
import Derived.Test.YthgpmnblkhehkaaDoorWire
import Derived.Test.YthgpmnblkhehkaaDoorApp
import Derived.WalkKit
import Derived.WalkSpells
import Derived.WalkLawsBesides
import Derived.Deep.QuietTactic
import Derived.BigQuiet
namespace Go.Proofs.YthgpmnblkhehkaaDoor
open Go.RowKit

theorem Tryd.u8w : U8s Tryd.prog 34 5 := ⟨Tryd.underlying34, Tryd.underlying5, by kernel_rfl⟩

theorem Own.fresh (w : World) (e : TypeId) : Own (w.alloc (.cells #[] e)) w.heap.size e (.slice (some ⟨w.heap.size, 0, none⟩) 0 0) 0 [] :=
  ⟨rfl, .inr ⟨w.heap.size, 0, #[], rfl, Nat.le_refl _, heap_alloc_new w _, Nat.le_refl _, by decide, rfl, rfl⟩⟩

set_option maxHeartbeats 400000 in
theorem clone_any (bs : List UInt8) (A : Option Addr) (n cap B : Nat) (w : World) (hb : Byt w B A n bs) (hn : n ≤ 140737488355328) (hB : B ≤ w.heap.size) :
    Calls Tryd.prog 54 #[.slice A n cap] w fun e w' => ∃ A' c', e = .returned (.slice A' n c') ∧ Own w' w.heap.size 5 (.slice A' n c') n bs ∧ Below w.heap.size w w' := by
  have HB := Lib.hid hb
  clear hb
  have hq := fun (w : World) (a : Option Addr) (n c : Nat) => Lib.run_eql_slice_nil (P := Tryd.prog) w 34 5 a n c 0 0 Tryd.underlying34
  rcases A with _ | ad
  · have h0 : n = 0 := by
      rcases Nat.eq_zero_or_pos n with h | h
      · exact h
      · obtain ⟨_, h', _⟩ := HB.out.mem h; cases h'
    subst h0
    have hbs : bs = [] := List.eq_nil_of_length_eq_zero HB.out.len
    subst hbs
    go_enter Tryd.func54, Tryd.ntmps54
    go_wp2
    go_ret
    exact ⟨none, 0, rfl, Own.nil _ _ _, Below.refl _ _⟩
  · go_enter Tryd.func54, Tryd.ntmps54
    go_wp2_with (at_builtin; refine wpList_append_byt rfl Tryd.u8w (.tmp 5) (.tmp 6) rfl rfl (Own.fresh w _) rfl (HB.out.alloc hB _) ?_ ?_ ?_; omega; simp; intro A1 c1 w1 hown1 hb1; simp only [Nat.zero_add, List.nil_append] at hown1; have HO1 := Lib.hid hown1; have HW1 : Hid (Below w.heap.size w w1) := ((Below.refl _ _).alloc (Nat.le_refl _) _).trans hb1; clear hown1 hb1)
    go_ret
    exact ⟨A1, c1, rfl, HO1.out, HW1.out⟩

theorem byte_of (n j : Nat) : (n : Int) / 2 ^ j % 256 = ((UInt8.ofNat (n / 2 ^ j)).toNat : Int) := by
  have h : (n : Int) / 2 ^ j = ((n / 2 ^ j : Nat) : Int) := by simp
  rw [h]
  simp

/-- What Put leaves: the copy, followed by the number. -/
def PutRes (base : Nat) (bs : List UInt8) (w : World) (e : Ending) (w' : World) : Prop :=
  ∃ A' c', e = .returned (.slice A' bs.length c') ∧ Own w' base 5 (.slice A' bs.length c') bs.length bs ∧ Below w.heap.size w w'

set_option maxHeartbeats 1000000 in
theorem put_any (bs : List UInt8) (A : Option Addr) (m cap B n : Nat) (width : Int) (w : World) (hb : Byt w B A m bs) (hm : m ≤ 1000000) (hB : B ≤ w.heap.size) (hlo : -9223372036854775808 ≤ width) (hhi : width ≤ 9223372036854775807) :
    Calls Tryd.prog 55 #[.slice A m cap, .int .u64 (n : Int), .int .i64 width] w (PutRes w.heap.size (putB bs n width) w) := by
  obtain rfl := hb.len
  have CL := Lib.hid (clone_any bs A bs.length cap B w hb (by omega) hB)
  clear hb hB
  by_cases hw : 1 ≤ width ∧ width ≤ 8
  · have hp : putB bs n width = bs ++ be width.toNat n := if_pos hw
    obtain ⟨k, rfl⟩ := Int.eq_ofNat_of_zero_le (by omega : 0 ≤ width)
    rw [Int.toNat_natCast] at hp
    obtain ⟨out, ho⟩ : ∃ out, putB bs n k = out := ⟨_, rfl⟩
    rw [ho] at hp ⊢
    have HP := Lib.hid hp
    obtain ⟨hw1, hw2⟩ := hw
    clear hp ho
    obtain ⟨l, hl⟩ : ∃ l, bs.length = l := ⟨_, rfl⟩
    rw [hl] at hm CL ⊢
    clear hl
    go_enter Tryd.func55, Tryd.ntmps55
    go_wp2_with (go_at_call 54; refine CL.out.mono ?_; rintro e w1 ⟨A1, c1, rfl, hown, hbel⟩; have HO := Lib.hid hown; have HW := Lib.hid hbel; clear hown hbel)
    clear CL
    go_loopw [7, 8] (fun v i wr => ∃ (j : Nat) (A2 : Option Addr) (c2 q : Nat) (pre : List UInt8), j ≤ k ∧ i = .int .i64 (8 * ((j : Int) - 1)) ∧ v = .slice A2 q c2 ∧ Own wr w.heap.size 5 (.slice A2 q c2) q pre ∧ pre ++ be j n = out ∧ Below w.heap.size w wr ∧ q + j ≤ 1000008)
      (fun _ i _ => (intOf i + 8).toNat)
    case atStart => exact ⟨k, A1, c1, l, bs, Nat.le_refl _, rfl, rfl, HO.out, HP.out.symm, HW.out, by omega⟩
    case round =>
      obtain ⟨j, A2, c2, q, pre, hj, rfl, rfl, hown, hpre, hbel, hq⟩ := hrel
      have HO2 := Lib.hid hown
      have HB2 := Lib.hid hbel
      have HE := Lib.hid hpre
      clear hown hbel hpre HO HW HP
      rcases j with _ | j
      · rw [show 8 * (((0 : Nat) : Int) - 1) = -8 from rfl]
        have hpo : pre = out := by have := HE.out; simpa [be] using this
        subst hpo
        obtain rfl := HO2.out.len
        go_wp2
        go_ret
        exact ⟨A2, c2, rfl, HO2.out, HB2.out⟩
      · rw [show 8 * (((j + 1 : Nat) : Int) - 1) = 8 * (j : Int) from by omega]
        have hbyte := byte_of n (8 * j)
        obtain ⟨x, hx⟩ : ∃ x, UInt8.ofNat (n / 2 ^ (8 * j)) = x := ⟨_, rfl⟩
        rw [hx] at hbyte
        have HX := Lib.hid hx
        clear hx
        go_wp2_with (at_builtin; refine wpList_append_byt rfl Tryd.u8w (.tmp 25) (.tmp 30) rfl rfl (HO2.out.keep ((Below.refl _ _).alloc (Nat.le_refl _) _)) rfl (Byt.new wr _ _ _ [x] rfl) ?_ ?_ ?_; (simp; omega); (have := HB2.out.size; simp; omega); intro A3 c3 w3 hown3 hbel3; have HO3 := Lib.hid hown3; have HB3 : Hid (Below w.heap.size w w3) := (HB2.out.alloc HB2.out.size _).trans hbel3; clear hown3 hbel3)
        go_roundw
        case rel => exact ⟨j, A3, c3, q + 1, pre ++ [x], by omega, by go_num, rfl, HO3.out, by rw [← HE.out, ← HX.out]; simp [be], HB3.out, by omega⟩
        case measure => first | (simp [intOf]; done) | (simp [intOf]; omega)
  · have hp : putB bs n width = bs := if_neg hw
    rw [hp]
    clear hp
    obtain ⟨l, hl⟩ : ∃ l, bs.length = l := ⟨_, rfl⟩
    have HL := Lib.hid hl
    rw [hl] at hm CL ⊢
    clear hl
    rcases Int.lt_or_le width 1 with h | h
    all_goals
      have hw8 : width < 1 ∨ 8 < width := by omega
      clear hw
      go_enter Tryd.func55, Tryd.ntmps55
      go_wp2_with (go_at_call 54; refine CL.out.mono ?_; rintro e w1 ⟨A1, c1, rfl, hown, hbel⟩; have HO := Lib.hid hown; have HW := Lib.hid hbel; clear hown hbel)
      go_ret
      have hO := HO.out
      rw [← HL.out] at hO
      exact ⟨A1, c1, by rw [HL.out]; rfl, hO, HW.out⟩

set_option maxHeartbeats 1000000 in
theorem refPut_any (bs : List UInt8) (A : Option Addr) (m cap B n : Nat) (width : Int) (w : World) (hb : Byt w B A m bs) (hm : m ≤ 1000000) (_hB : B ≤ w.heap.size) (hlo : -9223372036854775808 ≤ width) (hhi : width ≤ 9223372036854775807) :
    Calls Tryd.prog 65 #[.slice A m cap, .int .u64 (n : Int), .int .i64 width] w (PutRes w.heap.size (putB bs n width) w) := by
  obtain rfl := hb.len
  have CL := Lib.hid hb
  clear hb
  by_cases hw : 1 ≤ width ∧ width ≤ 8
  · have hp : putB bs n width = bs ++ be width.toNat n := if_pos hw
    obtain ⟨k, rfl⟩ := Int.eq_ofNat_of_zero_le (by omega : 0 ≤ width)
    rw [Int.toNat_natCast] at hp
    obtain ⟨out, ho⟩ : ∃ out, putB bs n k = out := ⟨_, rfl⟩
    rw [ho] at hp ⊢
    have HP := Lib.hid hp
    obtain ⟨hw1, hw2⟩ := hw
    clear hp ho
    obtain ⟨l, hl⟩ : ∃ l, bs.length = l := ⟨_, rfl⟩
    rw [hl] at hm CL ⊢
    clear hl
    go_enter Tryd.func65, Tryd.ntmps65
    go_wp2_with (at_builtin; refine wpList_append_byt rfl Tryd.u8w (.const (.slice none 0 0)) (.tmp 9) rfl rfl (Own.nil w w.heap.size _) rfl CL.out ?_ (Nat.le_refl _) ?_; omega; intro A1 c1 w1 hown hbel; simp only [Nat.zero_add, List.nil_append] at hown; have HO := Lib.hid hown; have HW := Lib.hid hbel; clear hown hbel)
    clear CL
    go_loopw [7, 8] (fun v i wr => ∃ (j : Nat) (A2 : Option Addr) (c2 q : Nat) (pre : List UInt8), j ≤ k ∧ i = .int .i64 (((j : Int) - 1)) ∧ v = .slice A2 q c2 ∧ Own wr w.heap.size 5 (.slice A2 q c2) q pre ∧ pre ++ be j n = out ∧ Below w.heap.size w wr ∧ q + j ≤ 1000008)
      (fun _ i _ => (intOf i + 1).toNat)
    case atStart => exact ⟨k, A1, c1, l, bs, Nat.le_refl _, rfl, rfl, HO.out, HP.out.symm, HW.out, by omega⟩
    case round =>
      obtain ⟨j, A2, c2, q, pre, hj, rfl, rfl, hown, hpre, hbel, hq⟩ := hrel
      have HO2 := Lib.hid hown
      have HB2 := Lib.hid hbel
      have HE := Lib.hid hpre
      clear hown hbel hpre HO HW HP
      rcases j with _ | j
      · rw [show (((0 : Nat) : Int) - 1) = -1 from rfl]
        have hpo : pre = out := by have := HE.out; simpa [be] using this
        subst hpo
        obtain rfl := HO2.out.len
        go_wp2
        go_ret
        exact ⟨A2, c2, rfl, HO2.out, HB2.out⟩
      · rw [show (((j + 1 : Nat) : Int) - 1) = (j : Int) from by omega]
        have hbyte := byte_of n (8 * j)
        obtain ⟨x, hx⟩ : ∃ x, UInt8.ofNat (n / 2 ^ (8 * j)) = x := ⟨_, rfl⟩
        rw [hx] at hbyte
        have HX := Lib.hid hx
        clear hx
        go_wp2_with (at_builtin; refine wpList_append_byt rfl Tryd.u8w (.tmp 24) (.tmp 31) rfl rfl (HO2.out.keep ((Below.refl _ _).alloc (Nat.le_refl _) _)) rfl (Byt.new wr _ _ _ [x] rfl) ?_ ?_ ?_; (simp; omega); (have := HB2.out.size; simp; omega); intro A3 c3 w3 hown3 hbel3; have HO3 := Lib.hid hown3; have HB3 : Hid (Below w.heap.size w w3) := (HB2.out.alloc HB2.out.size _).trans hbel3; clear hown3 hbel3)
        go_roundw
        case rel => exact ⟨j, A3, c3, q + 1, pre ++ [x], by omega, by go_num, rfl, HO3.out, by rw [← HE.out, ← HX.out]; simp [be], HB3.out, by omega⟩
        case measure => first | (simp [intOf]; done) | (simp [intOf]; omega)
  · have hp : putB bs n width = bs := if_neg hw
    rw [hp]
    clear hp
    obtain ⟨l, hl⟩ : ∃ l, bs.length = l := ⟨_, rfl⟩
    have HL := Lib.hid hl
    rw [hl] at hm CL ⊢
    clear hl
    rcases Int.lt_or_le width 1 with h | h
    all_goals
      have hw8 : width < 1 ∨ 8 < width := by omega
      clear hw
      go_enter Tryd.func65, Tryd.ntmps65
      go_wp2_with (at_builtin; refine wpList_append_byt rfl Tryd.u8w (.const (.slice none 0 0)) (.tmp 9) rfl rfl (Own.nil w w.heap.size _) rfl CL.out ?_ (Nat.le_refl _) ?_; omega; intro A1 c1 w1 hown hbel; simp only [Nat.zero_add, List.nil_append] at hown; have HO := Lib.hid hown; have HW := Lib.hid hbel; clear hown hbel)
      go_ret
      have hO := HO.out
      rw [← HL.out] at hO
      exact ⟨A1, c1, by rw [HL.out]; rfl, hO, HW.out⟩

/-- Two byte strings are equal. -/
theorem eq_at (xs ys : List UInt8) (h : xs.length = ys.length) (he : xs ≠ ys) : ∃ k, k < xs.length ∧ xs.take k = ys.take k ∧ xs[k]? ≠ ys[k]? := by
  induction xs generalizing ys with
  | nil => cases ys <;> simp_all
  | cons x xs ih =>
    cases ys with
    | nil => simp at h
    | cons y ys =>
      by_cases hxy : x = y
      · subst hxy
        obtain ⟨k, h1, h2, h3⟩ := ih ys (by simpa using h) (fun e => he (by rw [e]))
        exact ⟨k + 1, by simp; exact h1, by simp [h2], by simpa using h3⟩
      · exact ⟨0, by simp, by simp, by simpa using hxy⟩

set_option maxHeartbeats 1000000 in
theorem eq_any (xs ys : List UInt8) (A A' : Option Addr) (n n' cap cap' B B' : Nat) (w : World) (hx : Byt w B A n xs) (hy : Byt w B' A' n' ys) (hn : n ≤ 9223372036854775807) (hn' : n' ≤ 9223372036854775807) :
    Calls Tryd.prog 27 #[.slice A n cap, .slice A' n' cap'] w fun e w' => e = .returned (.bool (decide (xs = ys))) ∧ ∃ k, w' = w.drewN k := by
  have HX := Lib.hid hx
  have HY := Lib.hid hy
  clear hx hy
  by_cases hl : n = n'
  · subst hl
    have HL : Hid (xs.length = n ∧ ys.length = n) := ⟨HX.out.len, HY.out.len⟩
    go_enter Tryd.func27, Tryd.ntmps27
    go_wp2
    go_loopw [13] (fun i wr => ∃ k : Nat, k ≤ n ∧ i = .int .i64 k ∧ Hid (xs.take k = ys.take k) ∧ ∃ q, wr = w.drewN q) (fun i _ => n - (intOf i).toNat)
    case atStart => exact ⟨0, Nat.zero_le _, rfl, by simp [Hid], 0, rfl⟩
    case round =>
      obtain ⟨k, hk, rfl, ht, q, rfl⟩ := hrel
      by_cases hlt : k < n
      · obtain ⟨ad, x, rfl, _, hx1, hxc⟩ := HX.out.get hlt
        obtain ⟨ad', y, rfl, _, hy1, hyc⟩ := HY.out.get hlt
        have H1 := Lib.hid hx1
        have H2 := Lib.hid hy1
        have hk1 : (0 : Int) ≤ (k : Int) := by omega
        have hk2 : (k : Int) < n := by omega
        clear hx1 hy1
        by_cases hxy : x = y
        · subst hxy
          go_wp2
          go_quiet (fail)
          go_wp2
          go_roundw
          case rel => exact ⟨k + 1, by omega, by go_num, by
            have h1 := H1.out; have h2 := H2.out
            have l1 : k < xs.length := by rw [HL.out.1]; exact hlt
            have l2 : k < ys.length := by rw [HL.out.2]; exact hlt
            show _ = _
            rw [List.take_succ_eq_append_getElem l1, List.take_succ_eq_append_getElem l2, ht.out]
            rw [List.getElem?_eq_getElem l1] at h1
            rw [List.getElem?_eq_getElem l2] at h2
            injection h1 with h1; injection h2 with h2
            rw [h1, h2], _, rfl⟩
          case measure => simp [intOf]; omega
        · have hne : ((x.toNat : Int) != (y.toNat : Int)) = true := by
            simp only [bne_iff_ne, ne_eq]
            intro h
            exact hxy (UInt8.toNat_inj.1 (by omega))
          have HF : Hid (decide (xs = ys) = false) := by
            refine decide_eq_false fun h => hxy ?_
            have h1 := H1.out; have h2 := H2.out
            rw [h, h2] at h1
            injection h1 with h1
            exact h1.symm
          clear hxy
          go_wp2
          go_quiet (fail)
          go_wp2
          go_ret
          exact ⟨by rw [HF.out]; rfl, _, by rw [World.drewN_drewN]⟩
      · have hkn : k = n := by omega
        subst hkn
        have HF : Hid (decide (xs = ys) = true) := by
          refine decide_eq_true ?_
          have := ht.out
          rw [List.take_of_length_le (by rw [HL.out.1]; exact Nat.le_refl _), List.take_of_length_le (by rw [HL.out.2]; exact Nat.le_refl _)] at this
          exact this
        go_wp2
        go_ret
        exact ⟨by rw [HF.out]; rfl, _, rfl⟩
  · have HF : Hid (decide (xs = ys) = false) := by
      refine decide_eq_false fun h => hl ?_
      rw [← HX.out.len, ← HY.out.len, h]
    have hne : ((n : Int) != (n' : Int)) = true := by simp only [bne_iff_ne, ne_eq]; omega
    clear hl
    go_enter Tryd.func27, Tryd.ntmps27
    go_wp2
    go_ret
    exact ⟨by rw [HF.out]; rfl, 0, rfl⟩

end Go.Proofs.YthgpmnblkhehkaaDoor
